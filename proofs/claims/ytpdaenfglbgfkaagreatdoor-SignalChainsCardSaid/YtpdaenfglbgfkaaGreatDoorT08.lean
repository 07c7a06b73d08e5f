/-
  Texts of the proofs over baudot/signal: M4 M5 E5 E6 E7 E8 E9 G3 G4 G6 G5 G7 H3 H5 J1 J2 J3 J5 J6 J7 J4 J8 J9 JA JB JC JD JE JF JG JH JI K1 M6 M7 M8 I1 I2 I4 O1.
-/
import Derived.Test.YtpdaenfglbgfkaaGreatDoorT07
section
namespace Go.Proofs.YtpdaenfglbgfkaaGreatDoor
open Go.RL
set_option maxRecDepth 10000
set_option maxHeartbeats 16000000
def MovedQ(o:Option (List Int))(H:View)(v:Value)(H':View):Prop:=H.le H'∧match o with
 | none=> v=.tuple ⟨[.slice none 0 0,.bool false]⟩
 | some mv=> ∃g:Gl 3 1,v=.tuple ⟨[g.val,.bool true]⟩∧g.l=intsL mv∧∀y∈g.bl,H' y.1=some y.2∧H y.1=none
def leafR(s:Stg)(want:Int)(d i v:Nat)(pre:List Int):Option (List Int):=((s.leaves d i v pre).find? fun x=> wantQ want s.code (readN x.1)).map (·.2)
def optR(s:Stg)(want:Int)(d i v:Nat)(pre:List Int)(os:List (Int×Int)):Option (List Int):=((os.flatMap fun o=> s.leaves d (i+1) (turnedN v o.1.toNat) (pre++[o.2])).find? fun x=> wantQ want s.code (readN x.1)).map (·.2)
theorem optR_nil(s:Stg)(want:Int)(d i v:Nat)(pre:List Int):optR s want d i v pre []=none:=rfl
theorem optR_cons(s:Stg)(want:Int)(d i v:Nat)(pre:List Int)(o:Int×Int)(os:List (Int×Int)):optR s want d i v pre (o::os)=(leafR s want d (i+1) (turnedN v o.1.toNat) (pre++[o.2])).or (optR s want d i v pre os):=by
 unfold optR leafR
 rw[List.flatMap_cons,List.find?_append]
 cases (s.leaves d (i+1) (turnedN v o.1.toNat) (pre++[o.2])).find? fun x=> wantQ want s.code (readN x.1) <;> rfl
theorem leafR_zero(s:Stg)(want:Int)(i v:Nat)(pre:List Int):leafR s want 0 i v pre=if wantQ want s.code (readN v) then some pre else none:=by
 unfold leafR
 show(([(v,pre)]:List (Nat×List Int)).find? _).map _=_
 rw[List.find?_cons]
 show Option.map _ (match wantQ want s.code (readN v) with|true=> some (v,pre)|false=> List.find? _ [])=_
 cases wantQ want s.code (readN v) <;> rfl
theorem numsL_ne {l:List Nat}(h:0<l.length):numsL l≠ []:=fun e=> by
 have:=congrArg List.length e
 rw[numsL_len] at this
 simp only[List.length_nil] at this
 omega
section
variable(M:Md Tryz.prog)
theorem moved_c(s:Stg)(hok:s.Ok)(hr:0<s.read)(hr2:s.read≤1000)(hmt: -1000≤s.mt)(h0:s.ps[0]?.getD 0=0)(K:Option Addr)(kc:Nat)(want:Int)(hw: -1≤want∧want≤32):∀(d i:Nat) (H:View) (pre:List Int) (A:Option Addr) (ca:Nat),1≤d→1≤i→i+d=s.ps.length→i=pre.length→pre.headD s.first=s.first→(∀x∈pre, -1000≤x∧x≤1000)→Nums H A pre→Nums H K (numsL s.ps)→
   CallT M 150 #[bandV s.mf s.mt,.int .i64 s.code,.slice K s.ps.length kc,pastA s.send s.read s.lean A i ca,.int .i64 want] H (MovedQ (leafR s want d i (s.viewFrom 0 127 pre) pre) H):=by
 have o1:=hok.send
 have o2:=hok.read
 have o3:=hok.lean
 have o4:=hok.ps0
 have o5:=hok.ps6
 have o6:=hok.code
 have o7:=hok.first
 have o8:=hok.mf
 have o9:=hok.mt
 intro d
 induction d with
 | zero=> intro i H pre A ca h;omega
 | succ d ihd=>
 intro i H pre A ca _ hi1 hid hip hfirst hb hA hKs
 have hpne:pre≠ []:=fun e=> by rw[e] at hip;simp only[List.length_nil] at hip;omega
 have hs1:=intsL_single pre
 obtain⟨R,hR⟩:∃R,leafR s want (d+1) i (s.viewFrom 0 127 pre) pre=R:=⟨_,rfl⟩
 obtain⟨v0,hv0⟩:∃v,s.viewFrom 0 127 pre=v:=⟨_,rfl⟩
 obtain⟨af,haf⟩:∃a,s.after (s.ps[i]?.getD 0) i=a:=⟨_,rfl⟩
 have hpi:=hok.places i (by omega)
 have hst:=still_in (place:=((s.ps[i]?.getD 0:Nat):Int)) (number:=(i:Nat)) (send:=s.send) (lean:=s.lean) (by omega) (by omega) o1.1 o1.2 o3.1 o3.2
 have hst0:stillF ((s.ps[0]?.getD 0:Nat):Int) 0 s.send s.lean= - s.lean:=by
   rw[h0]
   unfold stillF
   rw[if_pos (by decide)]
   simp
 have haf2:af=stillF ((s.ps[i]?.getD 0:Nat):Int) i s.send s.lean+s.lean-s.first:=by
   rw[←haf]
   unfold Stg.after
   rw[hst0]
   omega
 have hRo:R=optR s want d i v0 pre (optGo s.read s.mt af (s.mt+1-s.mf).toNat s.mf):=by
   have e:s.leaves (d+1) i v0 pre=(s.opts (s.ps[i]?.getD 0) i).flatMap fun o=> s.leaves d (i+1) (turnedN v0 o.1.toNat) (pre++[o.2]):=rfl
   rw[←hR,hv0]
   unfold leafR optR
   rw[e]
   unfold Stg.opts
   rw[if_neg (by omega),haf]
 rw[hR]
 have hKne:=numsL_ne (l:=s.ps) (by omega)
 -- a call with one move more
 have hview:∀j,s.viewFrom 0 127 (pre++[j])=turnedN v0 (missedF s.read (af+j)).toNat:=fun j=> by
   rw[Stg.viewFrom_snoc,hv0,Nat.zero_add,←hip]
   unfold Stg.miss
   rw[if_neg (by omega),haf]
 have hcall:∀(j:Int) (H':View) (B:Option Addr) (cb:Nat), -1000≤j→j≤1000→H.le H'→Nums H' B (pre++[j])→
     CallT M 150 #[bandV s.mf s.mt,.int .i64 s.code,.slice K s.ps.length kc,pastA s.send s.read s.lean B (i+1) cb,.int .i64 want] H' (fun v H''=> H'.le H''∧match leafR s want d (i+1) (turnedN v0 (missedF s.read (af+j)).toNat) (pre++[j]) with
       | none=> v=.tuple ⟨[.slice none 0 0,.bool false]⟩
       | some mv=> (d=0∧mv=pre++[j]∧v=.tuple ⟨[.slice B (i+1) cb,.bool true]⟩)∨(d≠0∧∃g:Gl 3 1,v=.tuple ⟨[g.val,.bool true]⟩∧g.l=intsL mv∧∀y∈g.bl,H'' y.1=some y.2∧H' y.1=none)):=fun j H' B cb hj1 hj2 hle hB=> by
   have hb':∀x∈pre++[j], -1000≤x∧x≤1000:=fun x hx=> by
     rcases List.mem_append.1 hx with hx|hx
     · exact hb x hx
     · rw[List.mem_singleton.1 hx];exact⟨hj1,hj2⟩
   have hl':i+1=(pre++[j]).length:=by rw[List.length_append,←hip];rfl
   by_cases hd0:d=0
   · subst hd0
     refine CallT.mono (moved_leaf M H' s hok K kc want hw (pre++[j]) B (i+1) cb hl' (by omega) hb' hB (hKs.le hle)) ?_
     rintro v H'' ⟨h1,h2⟩
     refine⟨h1,?_⟩
     have hfj:(pre++[j]).headD s.first=s.first:=by
       cases pre with
       | nil=> exact absurd rfl hpne
       | cons x l=> exact hfirst
     rw[refRead_view hr (by simp) hfj,hview] at h2
     rw[leafR_zero]
     cases hq:wantQ want s.code (readN (turnedN v0 (missedF s.read (af+j)).toNat)) with
     | true=> rw[hq] at h2;exact .inl ⟨rfl,rfl,h2⟩
     | false=> rw[hq] at h2;exact h2
   · have hh:=ihd (i+1) H' (pre++[j]) B cb (by omega) (by omega) (by omega) hl' (by
       cases pre with
       | nil=> exact absurd rfl hpne
       | cons x l=> exact hfirst) hb' hB (hKs.le hle)
     rw[hview] at hh
     refine CallT.mono hh ?_
     rintro v H'' ⟨h1,h2⟩
     refine⟨h1,?_⟩
     revert h2
     cases leafR s want d (i+1) (turnedN v0 (missedF s.read (af+j)).toNat) (pre++[j]) with
     | none=> exact id
     | some mv=> exact fun h=> .inr ⟨hd0,h⟩
 clear ihd hview
 refine CallT.enter (vs:= [bandV s.mf s.mt,.int .i64 s.code,.slice K s.ps.length kc,pastA s.send s.read s.lean A i ca,.int .i64 want]) Tryz.func150 rfl Tryz.ntmps150 (Nat.le_of_ble_eq_true rfl) (SymSt.nil _) fun St c cs hK=> ?_
 refine .sr ?_
 refine .e (.bx (zz:=fun b5=> ?_))
 refine .e (.bx (zz:=fun b8=> ?_))
 refine .g ?_
 refine .g ?_
 refine .done (.sr ?_)
 refine .x .fa ?_
 refine .x (.ld 0) ?_
 refine .x .ln ?_
 refine .g ?_
 refine .done (.seq (.sr ?_))
 refine .m ?_
 refine .m ?_
 refine .x .ln ?_
 refine .i ?_ (z:=eql_f (by omega))
 refine .done (.ff rfl (.skip (.sr ?_)))
 refine .x .fa ?_
 refine .x (.ld 1) ?_
 refine .g ?_
 refine .done (.seq (.block ?_))
 refine Tc.db (Tc.loopInv (σ:= { x:Int×Nat // -1000≤x.1∧x.1≤40000∧(s.mt+1-x.1).toNat≤x.2∧R=optR s want d i v0 pre (optGo s.read s.mt af x.2 x.1) })
   (fun x=> ([(1,.int .i64 s.code),(2,.slice K s.ps.length kc),(4,.int .i64 want),(5,.pointer (some ⟨b5,0,none⟩)),(8,.pointer (some ⟨b8,0,none⟩)),(12,.int .i64 (i:Nat)),(17,.int .i64 x.1.1)],[(b8,true,.cells ⟨[.int .i64 s.send,.int .i64 s.read,.int .i64 s.lean,.slice A i ca]⟩ 39 (0,0)),(b5,true,.cells ⟨[.int .i64 s.mf,.int .i64 s.mt]⟩ 23 (0,0))])) (fun x=> x.1.2) ?_ ⟨(s.mf,(s.mt+1-s.mf).toNat),o8.1,by show s.mf≤_;omega,Nat.le_refl _,hRo⟩)
 rintro⟨⟨j,f⟩,q1,q2,q3,q4⟩ ih
 simp only at q1 q2 q3 q4
 show Tc M St _ _ _ _ [(1,.int .i64 s.code),(2,.slice K s.ps.length kc),(4,.int .i64 want),(5,.pointer (some ⟨b5,0,none⟩)),(8,.pointer (some ⟨b8,0,none⟩)),(12,.int .i64 (i:Nat)),(17,.int .i64 j)] [(b8,true,.cells ⟨[.int .i64 s.send,.int .i64 s.read,.int .i64 s.lean,.slice A i ca]⟩ 39 (0,0)),(b5,true,.cells ⟨[.int .i64 s.mf,.int .i64 s.mt]⟩ 23 (0,0))] _ _
 by_cases c1:j≤s.mt
 · obtain⟨f,rfl⟩:∃f',f=f'+1:=⟨f-1,by omega⟩
   unfold optGo at q4
   rw[if_pos c1,optR_cons] at q4
   refine .seq (.sr ?_)
   refine .m ?_
   refine .x .fa ?_
   refine .x (.ld 1) ?_
   refine .i ?_ (z:=leq_t (by omega))
   refine .done (.tt rfl (.skip (.block (.sr ?_))))
   refine .x (.ld 0) ?_
   refine .e (.al (zz:=fun b18=> ?_))
   refine .e (.st 0 (zz:=?_))
   refine .done (.sr ?_)
   refine .e (.bs (zz:=fun be=> ?_))
   refine .x .fa ?_
   refine .x (.ld 2) ?_
   refine To.perm (L₁:= [(b18,true,.cells ⟨[.int .i64 s.send,.int .i64 s.read,.int .i64 s.lean,.slice A i ca]⟩ 39 (0,0)),(b8,true,.cells ⟨[.int .i64 s.send,.int .i64 s.read,.int .i64 s.lean,.slice A i ca]⟩ 39 (0,0)),(b5,true,.cells ⟨[.int .i64 s.mf,.int .i64 s.mt]⟩ 23 (0,0))]++[(be,true,.cells ⟨[]⟩ 3 (0,0))]) List.perm_append_comm ?_
   refine .e (Or.append (E:=en) (g:=Gl.emp 3 1 be) 3 rfl rfl rfl rfl rfl rfl rfl rfl rfl rfl rfl rfl rfl rfl rfl (fun H hs=> (hA.le hs.base).src hpne hip ca) hs1 (by show 0+i≤_;omega) rfl (by decide) (fun g1 hn1 hl1=> ?_))
   have hn1':g1.n=i:=by rw[hn1];show 0+i=i;omega
   refine .m ?_
   refine .e (.bs (zz:=fun bs=> ?_))
   refine .e (Or.append (E:=en) 4 rfl rfl rfl rfl rfl rfl rfl rfl rfl rfl rfl rfl rfl rfl rfl (fun H hs=> SrcAt.of (hs.get (i:=0) rfl) (Nat.le_of_ble_eq_true rfl)) rfl (by omega) rfl (by decide) (fun g2 hn2 hl2=> ?_))
   refine .x .fa ?_
   refine .e (.st 1 (zz:=?_))
   refine .done ?_
   have hg2:g2.l=intsL (pre++[j]):=by
     rw[hl2,hl1]
     unfold intsL
     rw[List.map_append]
     rfl
   have hg2n:g2.n=i+1:=by
     have:=g2.hl
     rw[hg2,intsL_len,List.length_append] at this
     simp only[List.length_singleton] at this
     omega
   refine Tc.db (R':= [(1,.int .i64 s.code),(2,.slice K s.ps.length kc),(4,.int .i64 want),(5,.pointer (some ⟨b5,0,none⟩)),(8,.pointer (some ⟨b8,0,none⟩)),(12,.int .i64 (i:Nat)),(17,.int .i64 j),(18,.pointer (some ⟨b18,0,none⟩))]) (L':= [(b18,true,.cells ⟨[.int .i64 s.send,.int .i64 s.read,.int .i64 s.lean,g2.val]⟩ 39 (0,0)),(b8,true,.cells ⟨[.int .i64 s.send,.int .i64 s.read,.int .i64 s.lean,.slice A i ca]⟩ 39 (0,0)),(b5,true,.cells ⟨[.int .i64 s.mf,.int .i64 s.mt]⟩ 23 (0,0))]++g2.bl) ?_
   have hv2:g2.val=.slice (g2.blk.map fun b=> ⟨b,0,none⟩) (i+1) g2.cap:=by unfold Gl.val;rw[hg2n]
   have hcall2:∀(H':View),H.le H'→(∀y∈g2.bl,H' y.1=some y.2)→CallT M 150 #[bandV s.mf s.mt,.int .i64 s.code,.slice K s.ps.length kc,.agg ⟨[.int .i64 s.send,.int .i64 s.read,.int .i64 s.lean,g2.val]⟩,.int .i64 want] H' (fun v H''=> H'.le H''∧match leafR s want d (i+1) (turnedN v0 (missedF s.read (af+j)).toNat) (pre++[j]) with
       | none=> v=.tuple ⟨[.slice none 0 0,.bool false]⟩
       | some mv=> (d=0∧mv=pre++[j]∧v=.tuple ⟨[g2.val,.bool true]⟩)∨(d≠0∧∃g:Gl 3 1,v=.tuple ⟨[g.val,.bool true]⟩∧g.l=intsL mv∧∀y∈g.bl,H'' y.1=some y.2∧H' y.1=none)):=fun H' h hs=> by
     rw[hv2]
     exact hcall j H' _ g2.cap q1 (by omega) h (Nums.of hg2 hs).2
   clear hcall
   refine .seq (.seq ?_)
   cases hz:leafR s want d (i+1) (turnedN v0 (missedF s.read (af+j)).toNat) (pre++[j]) with
   | some mv=>
     rw[hz] at q4 hcall2
     have hRe:R=some mv:=q4
     rw[hRe] at hK
     clear ih q4
     by_cases hd0:d=0
     · have hmv:mv=pre++[j]:=by
         subst hd0
         rw[leafR_zero] at hz
         split at hz
         · exact(Option.some.inj hz).symm
         · cases hz
       subst hmv
       refine .r ?_
       refine .x (.ld 2) ?_
       refine .m ?_
       refine .m ?_
       refine .x (.ld 0) ?_
       refine .m ?_
       refine .c rfl rfl rfl rfl (fun H hs=> .f ca150 rfl (CallT.mono (hcall2 H hs.base (fun y hy=> hs.at_ y (by simp[hy]))) (Q':=fun v H'=> H.le H'∧v=.tuple ⟨[g2.val,.bool true]⟩) (by
         rintro v H' ⟨h1,⟨_,_,h2⟩|⟨h2,_⟩⟩
         · exact⟨h1,h2⟩
         · exact absurd hd0 h2))) ?_
       refine .m ?_
       refine .x .et ?_
       refine .x .et ?_
       refine .g ?_
       refine .g ?_
       refine .done (.sr ?_)
       refine .m ?_
       refine .done (.tt rfl (.sr ?_))
       refine .m ?_
       refine .g ?_
       refine .g ?_
       refine .done ?_
       refine .rt hK Tryz.func150 Tryz.results150 [_,_] ?_
       exact fun H' hs=> ⟨hs.base,g2,rfl,hg2,fun y hy=> ⟨hs.at_ y (by simp[hy]),hs.out y (by simp[hy])⟩⟩
     · refine .r ?_
       refine .x (.ld 2) ?_
       refine .m ?_
       refine .m ?_
       refine .x (.ld 0) ?_
       refine .m ?_
       refine .e (Or.callNew (fun g:Gl 3 1=> .tuple ⟨[g.val,.bool true]⟩) Gl.bl (fun g:Gl 3 1=> g.l=intsL mv) rfl rfl rfl rfl rfl (by decide) gl_nodup (fun H hs=> .f ca150 rfl (CallT.mono (hcall2 H hs.base (fun y hy=> hs.at_ y (by simp[hy]))) (by
         rintro v H' ⟨h1,⟨h2,_⟩|⟨_,g,h3,h4,h5⟩⟩
         · exact absurd h2 hd0
         · exact⟨h1,g,h3,h4,h5⟩))) (fun g3 hg3=> ?_))
       refine .m ?_
       refine .x .et ?_
       refine .x .et ?_
       refine .g ?_
       refine .g ?_
       refine .done (.sr ?_)
       refine .m ?_
       refine .done (.tt rfl (.sr ?_))
       refine .m ?_
       refine .g ?_
       refine .g ?_
       refine .done ?_
       refine .rt hK Tryz.func150 Tryz.results150 [_,_] ?_
       exact fun H' hs=> ⟨hs.base,g3,rfl,hg3,fun y hy=> ⟨hs.at_ y (by simp[hy]),hs.out y (by simp[hy])⟩⟩
   | none=>
     rw[hz] at q4 hcall2
     have hRe:R=optR s want d i v0 pre (if missedF s.read (af+j)=7 then [] else optGo s.read s.mt af f ((2*missedF s.read (af+j)+1)*s.read+1-af)):=q4
     clear q4
     refine .r ?_
     refine .x (.ld 2) ?_
     refine .m ?_
     refine .m ?_
     refine .x (.ld 0) ?_
     refine .m ?_
     refine .c rfl rfl rfl rfl (fun H hs=> .f ca150 rfl (hcall2 H hs.base (fun y hy=> hs.at_ y (by simp[hy])))) ?_
     refine .m ?_
     refine .x .et ?_
     refine .x .et ?_
     refine .g ?_
     refine .g ?_
     refine .done (.sr ?_)
     refine .m ?_
     refine .done (.ff rfl (.skip (.seq (.seq ?_))))
     refine Tc.db (R':= [(1,.int .i64 s.code),(2,.slice K s.ps.length kc),(4,.int .i64 want),(5,.pointer (some ⟨b5,0,none⟩)),(8,.pointer (some ⟨b8,0,none⟩)),(12,.int .i64 (i:Nat)),(17,.int .i64 j)]) (L':= [(b8,true,.cells ⟨[.int .i64 s.send,.int .i64 s.read,.int .i64 s.lean,.slice A i ca]⟩ 39 (0,0)),(b5,true,.cells ⟨[.int .i64 s.mf,.int .i64 s.mt]⟩ 23 (0,0))]) ?_
     clear hcall2
     refine .r ?_
     refine .m ?_
     refine .i ?_ (z:=eql_f (by omega))
     refine .done (.ff rfl (.skip (.seq ?_)))
     rcases hA with hA|⟨a1,a2,a3,a4,a5,a6,rfl,a7,a8⟩
     · exact absurd hA hpne
     rcases hKs with hK'|⟨k1,k2,k3,k4,k5,k6,rfl,k7,k8⟩
     · exact absurd hK' hKne
     have hpre0:pre[0]?.getD 0=s.first:=by
       cases pre with
       | nil=> exact absurd rfl hpne
       | cons x l=> exact hfirst
     have f1:ldL false 1 a4 (a2+(0:Int).toNat*1)=some (.int .i64 s.first):=by
       have:=a8 0 (by omega)
       rw[hpre0] at this
       exact this
     have f2:=k8 i (by rw[numsL_len];omega)
     rw[numsL_get (by omega)] at f2
     refine Tc.dr [] [] mixed rfl ?_
     refine .q 0 rfl .fa ?_
     refine .q 1 rfl (.ld 0) ?_
     refine .q 2 rfl .fa ?_
     refine .q 3 rfl (.ld 0) ?_
     refine .q 4 rfl .mv ?_
     refine .q 5 rfl .mv ?_
     refine .q 6 rfl .mv ?_
     refine .q 7 rfl .ia ?_
     refine .q 8 rfl .l0 ?_
     refine .z 9 rfl (OpV.takeCall rfl rfl rfl rfl (fun H hs=> .f ca173 rfl (Still_c M H s.send s.lean (i:Nat) ((s.ps[i]?.getD 0:Nat):Int) (by omega) (by omega) (by omega) o1.1 o1.2 o3.1 o3.2))) ?_
     refine .q 10 rfl .fa ?_
     refine .q 11 rfl (.ld 0) ?_
     refine .q 12 rfl (.it (zz:=add_in (by omega) (by omega))) ?_
     refine .q 13 rfl .fa ?_
     refine .q 14 rfl (.ld 0) ?_
     refine .q 15 rfl .ia ?_
     refine .q 16 rfl .l0 ?_
     refine .q 17 rfl (.it (zz:=sub_in (by omega) (by omega))) ?_
     refine .q 18 rfl .sg ?_
     refine Ta.done (by kernel_rfl) ?_
     rw[←haf2]
     refine .seq ?_
     obtain⟨m1,m2,m3⟩:=missedF_in s.read (af+j)
     generalize hmm:missedF s.read (af+j)=m at m1 m2 m3 hRe
     have x1:0≤(2*m+1)*s.read:=Int.mul_nonneg (by omega) (by omega)
     have x2:(2*m+1)*s.read≤15*1000:=Int.mul_le_mul (by omega) hr2 (by omega) (by omega)
     refine .r ?_
     refine .x .fa ?_
     refine .x (.ld 0) ?_
     refine .m ?_
     refine .m ?_
     refine .i ?_ (z:=add_in (by omega) (by omega))
     refine .c rfl rfl rfl rfl (fun H hs=> .f ca187 rfl (hmm▸early_c M H s.read (af+j) (by omega) (by omega))) ?_
     refine .g ?_
     refine .done (.seq (.seq ?_))
     by_cases c7:m=7
     · rw[if_pos c7,optR_nil] at hRe
       rw[hRe] at hK
       clear ih
       refine .r ?_
       refine .m ?_
       refine .i ?_ (z:=eql_t (by omega))
       refine .done (.tt rfl (.exit rfl (.sr ?_)))
       refine .g ?_
       refine .g ?_
       refine .done ?_
       refine .rt hK Tryz.func150 Tryz.results150 [_,_] ?_
       exact fun H' hs=> ⟨hs.base,rfl⟩
     · rw[if_neg c7] at hRe
       have x3:=m3 c7
       refine .r ?_
       refine .m ?_
       refine .i ?_ (z:=eql_f (by omega))
       refine .done (.ff rfl (.skip (.r ?_)))
       refine .m ?_
       refine .i ?_ (z:=mul_in (by omega) (by omega))
       refine .i ?_ (z:=add_in (by omega) (by omega))
       refine .x .fa ?_
       refine .x (.ld 0) ?_
       refine .i ?_ (z:=mul_in (by omega) (by omega))
       refine .i ?_ (z:=add_in (by omega) (by omega))
       refine .m ?_
       refine .i ?_ (z:=sub_in (by omega) (by omega))
       refine .g ?_
       refine .done (.inBlock ?_)
       exact Tc.db (ih ⟨((2*m+1)*s.read+1-af,f),by simp only;omega,by simp only;omega,by simp only;omega,hRe⟩ (by simp))
 · have c2:optGo s.read s.mt af f j= []:=by
     cases f with
     | zero=> rfl
     | succ f=> unfold optGo;rw[if_neg c1]
   rw[c2,optR_nil] at q4
   rw[q4] at hK
   clear ih
   refine .seq (.sr ?_)
   refine .m ?_
   refine .x .fa ?_
   refine .x (.ld 1) ?_
   refine .i ?_ (z:=leq_f (by omega))
   refine .done (.ff rfl (.exit rfl (.sr ?_)))
   refine .g ?_
   refine .g ?_
   refine .done ?_
   refine .rt hK Tryz.func150 Tryz.results150 [_,_] ?_
   exact fun H' hs=> ⟨hs.base,rfl⟩
end
end Go.Proofs.YtpdaenfglbgfkaaGreatDoor
end
section
namespace Go.Proofs.YtpdaenfglbgfkaaGreatDoor
open Go.RL
set_option maxRecDepth 10000
set_option maxHeartbeats 16000000
theorem places_first:∀co:Nat,co<32→(placesTo co 7)[0]?.getD 0=0∧2≤(placesTo co 7).length:=by decide +kernel
def Stg.ask(s:Stg)(want:Int):Option (List Int):=leafR s want s.ps.length 0 127 []
def firstIn(want:Int)(l:List Stg):Option (Int×Int×Int×List Int):=l.findSome? fun s=> (s.ask want).map fun mv=> (s.send,s.read,s.lean,mv)
def Lk.first(k:Lk)(want:Int)(co:Nat):Option (Int×Int×Int×List Int):=firstIn want (k.stgs co)
theorem firstIn_app(want:Int)(l m:List Stg):firstIn want (l++m)=(firstIn want l).or (firstIn want m):=by
 unfold firstIn
 rw[List.findSome?_append]
def zeroR(k:Lk)(co:Nat)(a r n want:Int)(l:List Int):Option (List Int):=l.findSome? fun f=> (k.stg co a r n f).ask want
theorem firstIn_four(k:Lk)(co:Nat)(a r n want:Int)(l:List Int):firstIn want (k.stgs₄ co a r n l)=(zeroR k co a r n want l).map fun mv=> (a,r,n,mv):=by
 unfold firstIn zeroR Lk.stgs₄
 induction l with
 | nil=> rfl
 | cons f l ih=>
   rw[List.map_cons,List.findSome?_cons,List.findSome?_cons]
   cases (k.stg co a r n f).ask want with
   | some mv=> rfl
   | none=> exact ih
theorem ask_one(k:Lk){co:Nat}(hc:co<32)(a r n f want:Int):(k.stg co a r n f).ask want=leafR (k.stg co a r n f) want ((placesTo co 7).length-1) 1 ((k.stg co a r n f).viewFrom 0 127 [f]) [f]:=by
 have h2:=(places_first co hc).2
 unfold Stg.ask
 show leafR (k.stg co a r n f) want (placesTo co 7).length 0 127 []=_
 obtain⟨d,hd⟩:∃d,(placesTo co 7).length=d+1:=⟨(placesTo co 7).length-1,by omega⟩
 rw[hd]
 unfold leafR
 have e:(k.stg co a r n f).leaves (d+1) 0 127 []=(k.stg co a r n f).leaves d 1 ((k.stg co a r n f).viewFrom 0 127 [f]) [f]++[]:=rfl
 rw[e,List.append_nil]
 rfl
section
variable(M:Md Tryz.prog)(H:View)
theorem moved_zero(k:Lk)(hk:k.ok=true)(co:Nat)(hc:co<32)(a r n:Int)(ha:k.s0≤a∧a≤k.s1)(hr:k.r0≤r∧r≤k.r1)(hn:k.l0≤n∧n≤k.l1)(K:Option Addr)(kc:Nat)(want:Int)(hw: -1≤want∧want≤32)(hKs:Nums H K (numsL (placesTo co 7))):
   CallT M 150 #[bandV k.m0 k.m1,.int .i64 co,.slice K (placesTo co 7).length kc,.agg ⟨[.int .i64 a,.int .i64 r,.int .i64 n,.slice none 0 0]⟩,.int .i64 want] H (MovedQ (zeroR k co a r n want (upTo k.m0 k.m1)) H):=by
 obtain⟨hks,hkr,hkl,hkm⟩:=Lk.ok_in hk
 have hp2:=places_first co hc
 obtain⟨R,hR⟩:∃R,zeroR k co a r n want (upTo k.m0 k.m1)=R:=⟨_,rfl⟩
 rw[hR]
 have hcall:∀(j:Int) (H':View) (B:Option Addr) (cb:Nat),k.m0≤j→j≤k.m1→H.le H'→Nums H' B [j]→
     CallT M 150 #[bandV k.m0 k.m1,.int .i64 co,.slice K (placesTo co 7).length kc,.agg ⟨[.int .i64 a,.int .i64 r,.int .i64 n,.slice B 1 cb]⟩,.int .i64 want] H' (MovedQ ((k.stg co a r n j).ask want) H'):=fun j H' B cb hj1 hj2 hle hB=> by
   have hok:=((Lk.fine hk).stg hc (x:=k.stg co a r n j) (Lk.mem_stgs.2 ⟨a,r,n,j,ha,hr,hn,⟨hj1,hj2⟩,rfl⟩)).1
   rw[ask_one k hc]
   exact moved_c M (k.stg co a r n j) hok (by show 0<r;omega) (by show r≤1000;omega) (by show -1000≤k.m1;omega) hp2.1 K kc want hw ((placesTo co 7).length-1) 1 H' [j] B cb (by omega) (Nat.le_refl _) (by show 1+_=(placesTo co 7).length;omega) rfl rfl (fun x hx=> by rw[List.mem_singleton.1 hx];omega) hB (hKs.le hle)
 refine CallT.enter (vs:= [bandV k.m0 k.m1,.int .i64 co,.slice K (placesTo co 7).length kc,.agg ⟨[.int .i64 a,.int .i64 r,.int .i64 n,.slice none 0 0]⟩,.int .i64 want]) Tryz.func150 rfl Tryz.ntmps150 (Nat.le_of_ble_eq_true rfl) (SymSt.nil _) fun St c cs hK=> ?_
 refine .sr ?_
 refine .e (.bx (zz:=fun b5=> ?_))
 refine .e (.bx (zz:=fun b8=> ?_))
 refine .g ?_
 refine .g ?_
 refine .done (.sr ?_)
 refine .x .fa ?_
 refine .x (.ld 0) ?_
 refine .x .ln ?_
 refine .g ?_
 refine .done (.seq (.sr ?_))
 refine .m ?_
 refine .m ?_
 refine .x .ln ?_
 refine .i ?_ (z:=eql_f (by omega))
 refine .done (.ff rfl (.skip (.sr ?_)))
 refine .x .fa ?_
 refine .x (.ld 1) ?_
 refine .g ?_
 refine .done (.seq (.block ?_))
 refine Tc.db (Tc.loopInv (σ:= { x:Int//k.m0≤x∧x≤k.m1+1∧R=zeroR k co a r n want (upTo x k.m1) })
   (fun x=> ([(1,.int .i64 co),(2,.slice K (placesTo co 7).length kc),(4,.int .i64 want),(5,.pointer (some ⟨b5,0,none⟩)),(8,.pointer (some ⟨b8,0,none⟩)),(12,.int .i64 0),(17,.int .i64 x.1)],[(b8,true,.cells ⟨[.int .i64 a,.int .i64 r,.int .i64 n,.slice none 0 0]⟩ 39 (0,0)),(b5,true,.cells ⟨[.int .i64 k.m0,.int .i64 k.m1]⟩ 23 (0,0))])) (fun x=> (k.m1+1-x.1).toNat) ?_ ⟨k.m0,Int.le_refl _,by omega,hR.symm⟩)
 rintro⟨j,q1,q2,q3⟩ ih
 show Tc M St _ _ _ _ [(1,.int .i64 co),(2,.slice K (placesTo co 7).length kc),(4,.int .i64 want),(5,.pointer (some ⟨b5,0,none⟩)),(8,.pointer (some ⟨b8,0,none⟩)),(12,.int .i64 0),(17,.int .i64 j)] [(b8,true,.cells ⟨[.int .i64 a,.int .i64 r,.int .i64 n,.slice none 0 0]⟩ 39 (0,0)),(b5,true,.cells ⟨[.int .i64 k.m0,.int .i64 k.m1]⟩ 23 (0,0))] _ _
 by_cases c1:j≤k.m1
 · rw[upTo_cons c1] at q3
   refine .seq (.sr ?_)
   refine .m ?_
   refine .x .fa ?_
   refine .x (.ld 1) ?_
   refine .i ?_ (z:=leq_t (by omega))
   refine .done (.tt rfl (.skip (.block (.sr ?_))))
   refine .x (.ld 0) ?_
   refine .e (.al (zz:=fun b18=> ?_))
   refine .e (.st 0 (zz:=?_))
   refine .done (.sr ?_)
   refine .e (.bs (zz:=fun be=> ?_))
   refine .x .fa ?_
   refine .x (.ld 2) ?_
   refine To.perm (L₁:= [(b18,true,.cells ⟨[.int .i64 a,.int .i64 r,.int .i64 n,.slice none 0 0]⟩ 39 (0,0)),(b8,true,.cells ⟨[.int .i64 a,.int .i64 r,.int .i64 n,.slice none 0 0]⟩ 39 (0,0)),(b5,true,.cells ⟨[.int .i64 k.m0,.int .i64 k.m1]⟩ 23 (0,0))]++[(be,true,.cells ⟨[]⟩ 3 (0,0))]) List.perm_append_comm ?_
   refine .e (Or.append (E:=en) (g:=Gl.emp 3 1 be) (new:= []) 3 rfl rfl rfl rfl rfl rfl rfl rfl rfl rfl rfl rfl rfl rfl rfl (fun H hs=> ⟨⟨_,_,rfl⟩,rfl,.inl ⟨_,rfl,rfl⟩⟩) rfl (by show 0+0≤_;omega) rfl (by decide) (fun g1 hn1 hl1=> ?_))
   have hn1':g1.n=0:=hn1
   refine .m ?_
   refine .e (.bs (zz:=fun bs=> ?_))
   refine .e (Or.append (E:=en) 4 rfl rfl rfl rfl rfl rfl rfl rfl rfl rfl rfl rfl rfl rfl rfl (fun H hs=> SrcAt.of (hs.get (i:=0) rfl) (Nat.le_of_ble_eq_true rfl)) rfl (by omega) rfl (by decide) (fun g2 hn2 hl2=> ?_))
   refine .x .fa ?_
   refine .e (.st 1 (zz:=?_))
   refine .done ?_
   have hg2:g2.l=intsL [j]:=by
     rw[hl2,hl1]
     rfl
   have hg2n:g2.n=1:=by
     have:=g2.hl
     rw[hg2,intsL_len] at this
     simp only[List.length_singleton] at this
     omega
   refine Tc.db (R':= [(1,.int .i64 co),(2,.slice K (placesTo co 7).length kc),(4,.int .i64 want),(5,.pointer (some ⟨b5,0,none⟩)),(8,.pointer (some ⟨b8,0,none⟩)),(12,.int .i64 0),(17,.int .i64 j),(18,.pointer (some ⟨b18,0,none⟩))]) (L':= [(b18,true,.cells ⟨[.int .i64 a,.int .i64 r,.int .i64 n,g2.val]⟩ 39 (0,0)),(b8,true,.cells ⟨[.int .i64 a,.int .i64 r,.int .i64 n,.slice none 0 0]⟩ 39 (0,0)),(b5,true,.cells ⟨[.int .i64 k.m0,.int .i64 k.m1]⟩ 23 (0,0))]++g2.bl) ?_
   have hv2:g2.val=.slice (g2.blk.map fun b=> ⟨b,0,none⟩) 1 g2.cap:=by unfold Gl.val;rw[hg2n]
   have hcall2:∀(H':View),H.le H'→(∀y∈g2.bl,H' y.1=some y.2)→CallT M 150 #[bandV k.m0 k.m1,.int .i64 co,.slice K (placesTo co 7).length kc,.agg ⟨[.int .i64 a,.int .i64 r,.int .i64 n,g2.val]⟩,.int .i64 want] H' (MovedQ ((k.stg co a r n j).ask want) H'):=fun H' h hs=> by
     rw[hv2]
     exact hcall j H' _ g2.cap q1 c1 h (Nums.of hg2 hs).2
   clear hcall
   refine .seq (.seq ?_)
   cases hz:(k.stg co a r n j).ask want with
   | some mv=>
     have hRe:R=some mv:=by rw[q3];unfold zeroR;rw[List.findSome?_cons,hz]
     rw[hRe] at hK
     rw[hz] at hcall2
     clear ih q3
     refine .r ?_
     refine .x (.ld 2) ?_
     refine .m ?_
     refine .m ?_
     refine .x (.ld 0) ?_
     refine .m ?_
     refine .e (Or.callNew (fun g:Gl 3 1=> .tuple ⟨[g.val,.bool true]⟩) Gl.bl (fun g:Gl 3 1=> g.l=intsL mv) rfl rfl rfl rfl rfl (by decide) gl_nodup (fun H hs=> .f ca150 rfl (hcall2 H hs.base (fun y hy=> hs.at_ y (by simp[hy])))) (fun g3 hg3=> ?_))
     refine .m ?_
     refine .x .et ?_
     refine .x .et ?_
     refine .g ?_
     refine .g ?_
     refine .done (.sr ?_)
     refine .m ?_
     refine .done (.tt rfl (.sr ?_))
     refine .m ?_
     refine .g ?_
     refine .g ?_
     refine .done ?_
     refine .rt hK Tryz.func150 Tryz.results150 [_,_] ?_
     exact fun H' hs=> ⟨hs.base,g3,rfl,hg3,fun y hy=> ⟨hs.at_ y (by simp[hy]),hs.out y (by simp[hy])⟩⟩
   | none=>
     have hRe:R=zeroR k co a r n want (upTo (j+1) k.m1):=by rw[q3];unfold zeroR;rw[List.findSome?_cons,hz]
     rw[hz] at hcall2
     refine .r ?_
     refine .x (.ld 2) ?_
     refine .m ?_
     refine .m ?_
     refine .x (.ld 0) ?_
     refine .m ?_
     refine .c rfl rfl rfl rfl (fun H hs=> .f ca150 rfl (hcall2 H hs.base (fun y hy=> hs.at_ y (by simp[hy])))) ?_
     refine .m ?_
     refine .x .et ?_
     refine .x .et ?_
     refine .g ?_
     refine .g ?_
     refine .done (.sr ?_)
     refine .m ?_
     refine .done (.ff rfl (.skip (.seq (.sr ?_))))
     refine .m ?_
     refine .i ?_ (z:=eql_t (by omega))
     refine .done (.tt rfl (.sr ?_))
     refine .m ?_
     refine .i ?_ (z:=add_in (by omega) (by omega))
     refine .g ?_
     refine .done (.exit rfl ?_)
     exact Tc.db (ih ⟨j+1,by omega,by omega,hRe⟩ (by simp only;omega))
 · have:R=none:=by rw[q3,upTo_nil (by omega)];rfl
   rw[this] at hK
   clear ih
   refine .seq (.sr ?_)
   refine .m ?_
   refine .x .fa ?_
   refine .x (.ld 1) ?_
   refine .i ?_ (z:=leq_f (by omega))
   refine .done (.ff rfl (.exit rfl (.sr ?_)))
   refine .g ?_
   refine .g ?_
   refine .done ?_
   refine .rt hK Tryz.func150 Tryz.results150 [_,_] ?_
   exact fun H' hs=> ⟨hs.base,rfl⟩
def FirstQ(o:Option (Int×Int×Int×List Int))(H:View)(v:Value)(H':View):Prop:=H.le H'∧match o with
 | none=> v=.tuple ⟨[.agg ⟨[.int .i64 0,.int .i64 0,.int .i64 0,.slice none 0 0]⟩,.bool false]⟩
 | some (a,r,n,mv)=> ∃g:Gl 3 1,v=.tuple ⟨[pastV a r n g,.bool true]⟩∧g.l=intsL mv∧∀y∈g.bl,H' y.1=some y.2∧H y.1=none
theorem First_c(k:Lk)(hk:k.ok=true)(co:Nat)(hc:co<32)(want:Int)(hw: -1≤want∧want≤32):
   CallT M 94 #[k.val,.int .i64 co,.int .i64 want] H (FirstQ (k.first want co) H):=by
 obtain⟨hks,hkr,hkl,hkm⟩:=Lk.ok_in hk
 obtain⟨R,hR⟩:∃R,k.first want co=R:=⟨_,rfl⟩
 rw[hR]
 refine CallT.enter (vs:= [k.val,.int .i64 co,.int .i64 want]) Tryz.func94 rfl Tryz.ntmps94 (Nat.le_of_ble_eq_true rfl) (SymSt.nil _) fun St c cs hK=> ?_
 refine .sr ?_
 refine .e (.bx (zz:=fun b3=> ?_))
 refine .e (.al (zz:=fun b6=> ?_))
 refine .g ?_
 refine .done (.sr ?_)
 refine .m ?_
 refine .e (Or.callNew Gl.val Gl.bl (fun g:Gl 3 1=> g.l=placesV (placesTo co 7)) rfl rfl rfl rfl rfl (by decide) gl_nodup (fun H hs=> .f ca52 rfl (EdgesOf_c M H co hc)) (fun g hg=> ?_))
 refine .g ?_
 refine .done ?_
 refine Tc.lift (L₂:= [(b6,true,.cells ⟨[.int .i64 0,.int .i64 0,.int .i64 0,.slice none 0 0]⟩ 39 (0,0)),(b3,true,.cells ⟨k.val.cells.toList⟩ 27 (0,0))]) (L₁:=g.bl) rfl (fun Hx hx=> ?_)
 have hle:=hx.base
 have hgp:g.l=intsL (numsL (placesTo co 7)):=by
   rw[hg]
   unfold placesV intsL numsL
   rw[List.map_map]
   rfl
 obtain⟨n0,N0⟩:=Nums.of (H:=Hx) hgp (fun y hy=> hx.at_ y hy)
 rw[numsL_len] at n0
 have hfr:∀b x,Hx b=none→H b=some x→False:=fun b x h2 h3=> by rw[hle _ _ h3] at h2;cases h2
 have hnew:∀y:Nat×Bool×Obj,Hx y.1=none→H y.1=none:=fun y h=> by
   cases h2:H y.1 with
   | none=> rfl
   | some x=> exact(hfr _ x h h2).elim
 clear hx
 have hv:g.val=.slice (g.blk.map fun b=> ⟨b,0,none⟩) (placesTo co 7).length g.cap:=by unfold Gl.val;rw[n0]
 obtain⟨K,hKe⟩:∃K:Option Addr,(g.blk.map fun b=> ⟨b,0,none⟩)=K:=⟨_,rfl⟩
 obtain⟨kc,hkc⟩:∃kc,g.cap=kc:=⟨_,rfl⟩
 rw[hKe,hkc] at hv
 rw[hKe] at N0
 rw[hv]
 have h1R:R=firstIn want (k.stgs₁ co (upTo k.s0 k.s1)):=hR.symm
 clear hR hg hgp hfr
 refine .seq (.sr ?_)
 refine .x .fa ?_
 refine .x .fa ?_
 refine .x (.ld 1) ?_
 refine .g ?_
 refine .done (.block ?_)
 refine Tc.db (Tc.loopInv (σ:= { x:Int//k.s0≤x∧x≤k.s1+1∧R=firstIn want (k.stgs₁ co (upTo x k.s1)) })
   (fun x=> ([(1,.int .i64 co),(2,.int .i64 want),(3,.pointer (some ⟨b3,0,none⟩)),(6,.pointer (some ⟨b6,0,none⟩)),(8,.slice K (placesTo co 7).length kc),(9,.int .i64 x.1)],[(b6,true,.cells ⟨[.int .i64 0,.int .i64 0,.int .i64 0,.slice none 0 0]⟩ 39 (0,0)),(b3,true,.cells ⟨k.val.cells.toList⟩ 27 (0,0))])) (fun x=> (k.s1+1-x.1).toNat) ?_ ⟨k.s0,Int.le_refl _,by omega,h1R⟩)
 rintro⟨a,a1,a2,a3⟩ ih₁
 show Tc M St _ _ _ _ [(1,.int .i64 co),(2,.int .i64 want),(3,.pointer (some ⟨b3,0,none⟩)),(6,.pointer (some ⟨b6,0,none⟩)),(8,.slice K (placesTo co 7).length kc),(9,.int .i64 a)] [(b6,true,.cells ⟨[.int .i64 0,.int .i64 0,.int .i64 0,.slice none 0 0]⟩ 39 (0,0)),(b3,true,.cells ⟨k.val.cells.toList⟩ 27 (0,0))] _ _
 by_cases ca:a≤k.s1
 · rw[upTo_cons ca] at a3
   have e1:k.stgs₁ co (a::upTo (a+1) k.s1)=k.stgs₂ co a (upTo k.r0 k.r1)++k.stgs₁ co (upTo (a+1) k.s1):=by unfold Lk.stgs₁;rw[List.flatMap_cons]
   rw[e1,firstIn_app] at a3
   refine .seq (.sr ?_)
   refine .m ?_
   refine .x .fa ?_
   refine .x .fa ?_
   refine .x (.ld 1) ?_
   refine .i ?_ (z:=leq_t (by omega))
   refine .done (.tt rfl (.skip (.seq (.block (.sr ?_)))))
   refine .x .fa ?_
   refine .x .fa ?_
   refine .x (.ld 1) ?_
   refine .g ?_
   refine .done (.block ?_)
   refine Tc.db (Tc.loopInv (σ:= { x:Int//k.r0≤x∧x≤k.r1+1∧R=(firstIn want (k.stgs₂ co a (upTo x k.r1))).or (firstIn want (k.stgs₁ co (upTo (a+1) k.s1))) })
     (fun x=> ([(1,.int .i64 co),(2,.int .i64 want),(3,.pointer (some ⟨b3,0,none⟩)),(6,.pointer (some ⟨b6,0,none⟩)),(8,.slice K (placesTo co 7).length kc),(9,.int .i64 a),(10,.int .i64 x.1)],[(b6,true,.cells ⟨[.int .i64 0,.int .i64 0,.int .i64 0,.slice none 0 0]⟩ 39 (0,0)),(b3,true,.cells ⟨k.val.cells.toList⟩ 27 (0,0))])) (fun x=> (k.r1+1-x.1).toNat) ?_ ⟨k.r0,Int.le_refl _,by omega,a3⟩)
   rintro⟨r,r1,r2,r3⟩ ih₂
   show Tc M St _ _ _ _ [(1,.int .i64 co),(2,.int .i64 want),(3,.pointer (some ⟨b3,0,none⟩)),(6,.pointer (some ⟨b6,0,none⟩)),(8,.slice K (placesTo co 7).length kc),(9,.int .i64 a),(10,.int .i64 r)] [(b6,true,.cells ⟨[.int .i64 0,.int .i64 0,.int .i64 0,.slice none 0 0]⟩ 39 (0,0)),(b3,true,.cells ⟨k.val.cells.toList⟩ 27 (0,0))] _ _
   by_cases cr:r≤k.r1
   · rw[upTo_cons cr] at r3
     have e2:k.stgs₂ co a (r::upTo (r+1) k.r1)=k.stgs₃ co a r (upTo k.l0 k.l1)++k.stgs₂ co a (upTo (r+1) k.r1):=by unfold Lk.stgs₂;rw[List.flatMap_cons]
     rw[e2,firstIn_app,Option.or_assoc] at r3
     refine .seq (.sr ?_)
     refine .m ?_
     refine .x .fa ?_
     refine .x .fa ?_
     refine .x (.ld 1) ?_
     refine .i ?_ (z:=leq_t (by omega))
     refine .done (.tt rfl (.skip (.seq (.block (.sr ?_)))))
     refine .x .fa ?_
     refine .x .fa ?_
     refine .x .fa ?_
     refine .x (.ld 1) ?_
     refine .g ?_
     refine .done (.block ?_)
     refine Tc.db (Tc.loopInv (σ:= { x:Int//k.l0≤x∧x≤k.l1+1∧R=(firstIn want (k.stgs₃ co a r (upTo x k.l1))).or ((firstIn want (k.stgs₂ co a (upTo (r+1) k.r1))).or (firstIn want (k.stgs₁ co (upTo (a+1) k.s1)))) })
       (fun x=> ([(1,.int .i64 co),(2,.int .i64 want),(3,.pointer (some ⟨b3,0,none⟩)),(6,.pointer (some ⟨b6,0,none⟩)),(8,.slice K (placesTo co 7).length kc),(9,.int .i64 a),(10,.int .i64 r),(11,.int .i64 x.1)],[(b6,true,.cells ⟨[.int .i64 0,.int .i64 0,.int .i64 0,.slice none 0 0]⟩ 39 (0,0)),(b3,true,.cells ⟨k.val.cells.toList⟩ 27 (0,0))])) (fun x=> (k.l1+1-x.1).toNat) ?_ ⟨k.l0,Int.le_refl _,by omega,r3⟩)
     rintro⟨n,n1,n2,n3⟩ ih₃
     show Tc M St _ _ _ _ [(1,.int .i64 co),(2,.int .i64 want),(3,.pointer (some ⟨b3,0,none⟩)),(6,.pointer (some ⟨b6,0,none⟩)),(8,.slice K (placesTo co 7).length kc),(9,.int .i64 a),(10,.int .i64 r),(11,.int .i64 n)] [(b6,true,.cells ⟨[.int .i64 0,.int .i64 0,.int .i64 0,.slice none 0 0]⟩ 39 (0,0)),(b3,true,.cells ⟨k.val.cells.toList⟩ 27 (0,0))] _ _
     by_cases cn:n≤k.l1
     · rw[upTo_cons cn] at n3
       have e3:k.stgs₃ co a r (n::upTo (n+1) k.l1)=k.stgs₄ co a r n (upTo k.m0 k.m1)++k.stgs₃ co a r (upTo (n+1) k.l1):=by unfold Lk.stgs₃;rw[List.flatMap_cons]
       rw[e3,firstIn_app,Option.or_assoc,firstIn_four] at n3
       have hmz:=fun(H':View) (h:Hx.le H')=> moved_zero M H' k hk co hc a r n ⟨a1,ca⟩ ⟨r1,cr⟩ ⟨n1,cn⟩ K kc want hw (N0.le h)
       refine .seq (.sr ?_)
       refine .m ?_
       refine .x .fa ?_
       refine .x .fa ?_
       refine .x .fa ?_
       refine .x (.ld 1) ?_
       refine .i ?_ (z:=leq_t (by omega))
       refine .done (.tt rfl (.skip (.seq (.block (.sr ?_)))))
       refine .m ?_
       refine .m ?_
       refine .m ?_
       refine .x .bu ?_
       refine .e (.al (zz:=fun b12=> ?_))
       refine .e (.st 0 (zz:=?_))
       refine .done (.seq ?_)
       cases hz:zeroR k co a r n want (upTo k.m0 k.m1) with
       | some mv=>
         rw[hz] at n3 hmz
         have hRe:R=some (a,r,n,mv):=n3
         rw[hRe] at hK
         clear ih₁ ih₂ ih₃
         refine .r ?_
         refine .x .fa ?_
         refine .x .fa ?_
         refine .x (.ld 2) ?_
         refine .m ?_
         refine .m ?_
         refine .x (.ld 0) ?_
         refine .m ?_
         refine .e (Or.callNew (fun g:Gl 3 1=> .tuple ⟨[g.val,.bool true]⟩) Gl.bl (fun g:Gl 3 1=> g.l=intsL mv) rfl rfl rfl rfl rfl (by decide) gl_nodup (fun H hs=> .f ca150 rfl (hmz H hs.base)) (fun g3 hg3=> ?_))
         refine .m ?_
         refine .x .et ?_
         refine .x .et ?_
         refine .g ?_
         refine .g ?_
         refine .done (.sr ?_)
         refine .m ?_
         refine .done (.tt rfl (.sr ?_))
         refine .m ?_
         refine .x .fa ?_
         refine .e (.st 0 (zz:=?_))
         refine .done (.sr ?_)
         refine .x (.ld 0) ?_
         refine .e (.st 1 (zz:=?_))
         refine .g ?_
         refine .done ?_
         refine Tc.retN (E:=en) hK Tryz.func94 Tryz.results94 (vs:= [_,_]) (by refine⟨⟨1,_,_,_,_,_,_,_,rfl,rfl,rfl,rfl⟩,?_⟩;refine⟨rfl,?_⟩;exact trivial) ?_
         exact fun H' hs=> ⟨View.le_trans hle hs.base,g3,rfl,hg3,fun y hy=> ⟨hs.at_ y (by simp[hy]),hnew y (hs.out y (by simp[hy]))⟩⟩
       | none=>
         rw[hz] at n3 hmz
         have hRe:R=(firstIn want (k.stgs₃ co a r (upTo (n+1) k.l1))).or ((firstIn want (k.stgs₂ co a (upTo (r+1) k.r1))).or (firstIn want (k.stgs₁ co (upTo (a+1) k.s1)))):=n3
         refine .r ?_
         refine .x .fa ?_
         refine .x .fa ?_
         refine .x (.ld 2) ?_
         refine .m ?_
         refine .m ?_
         refine .x (.ld 0) ?_
         refine .m ?_
         refine .c rfl rfl rfl rfl (fun H hs=> .f ca150 rfl (hmz H hs.base)) ?_
         refine .m ?_
         refine .x .et ?_
         refine .x .et ?_
         refine .g ?_
         refine .g ?_
         refine .done (.sr ?_)
         refine .m ?_
         refine .done (.ff rfl (.skip (.inBlock (.r ?_))))
         refine .m ?_
         refine .i ?_ (z:=add_in (by omega) (by omega))
         refine .g ?_
         refine .done ?_
         exact Tc.db (ih₃ ⟨n+1,by omega,by omega,hRe⟩ (by simp only;omega))
     · rw[upTo_nil (by omega)] at n3
       have hRe:R=(firstIn want (k.stgs₂ co a (upTo (r+1) k.r1))).or (firstIn want (k.stgs₁ co (upTo (a+1) k.s1))):=n3
       refine .seq (.sr ?_)
       refine .m ?_
       refine .x .fa ?_
       refine .x .fa ?_
       refine .x .fa ?_
       refine .x (.ld 1) ?_
       refine .i ?_ (z:=leq_f (by omega))
       refine .done (.ff rfl (.exit rfl (.inBlock (.r ?_))))
       refine .m ?_
       refine .i ?_ (z:=add_in (by omega) (by omega))
       refine .g ?_
       refine .done ?_
       exact Tc.db (ih₂ ⟨r+1,by omega,by omega,hRe⟩ (by simp only;omega))
   · rw[upTo_nil (by omega)] at r3
     have hRe:R=firstIn want (k.stgs₁ co (upTo (a+1) k.s1)):=r3
     refine .seq (.sr ?_)
     refine .m ?_
     refine .x .fa ?_
     refine .x .fa ?_
     refine .x (.ld 1) ?_
     refine .i ?_ (z:=leq_f (by omega))
     refine .done (.ff rfl (.exit rfl (.inBlock (.r ?_))))
     refine .m ?_
     refine .i ?_ (z:=add_in (by omega) (by omega))
     refine .g ?_
     refine .done ?_
     exact Tc.db (ih₁ ⟨a+1,by omega,by omega,hRe⟩ (by simp only;omega))
 · have hRe:R=none:=by rw[a3,upTo_nil (by omega)];rfl
   rw[hRe] at hK
   clear ih₁
   refine .seq (.sr ?_)
   refine .m ?_
   refine .x .fa ?_
   refine .x .fa ?_
   refine .x (.ld 1) ?_
   refine .i ?_ (z:=leq_f (by omega))
   refine .done (.ff rfl (.exit rfl (.sr ?_)))
   refine .x .bu ?_
   refine .e (.st 0 (zz:=?_))
   refine .g ?_
   refine .done ?_
   refine Tc.retN (E:=en) hK Tryz.func94 Tryz.results94 (vs:= [_,_]) (by refine⟨⟨0,_,_,_,_,_,_,_,rfl,rfl,rfl,rfl⟩,?_⟩;refine⟨rfl,?_⟩;exact trivial) ?_
   exact fun H' hs=> ⟨View.le_trans hle hs.base,rfl⟩
end
end Go.Proofs.YtpdaenfglbgfkaaGreatDoor
end
section
namespace Go.Proofs.YtpdaenfglbgfkaaGreatDoor
open Go.RL
set_option maxRecDepth 10000
set_option maxHeartbeats 4000000
theorem readN_iff:∀v:Nat,v<128→∀n:Nat,n<32→(readN v=some n↔v=64+2*n):=by decide +kernel
theorem readN_lt {v n:Nat}(h:readN v=some n):n<32:=by
 unfold readN at h
 split at h
 · cases h
   omega
 · cases h
theorem born_unique:∀ {l:List MapEntry},(l.map (·.born)).Nodup→∀a∈l,∀b∈l,a.born=b.born→a=b
 | [],_,a,ha,_,_,_=> by cases ha
 | x ::l,h,a,ha,b,hb,e=> by
   rw[List.map_cons,List.nodup_cons] at h
   rcases List.mem_cons.1 ha with h1|h1
   · rcases List.mem_cons.1 hb with h2|h2
     · rw[h1,h2]
     · subst h1
       exact(h.1 (e▸List.mem_map_of_mem h2)).elim
   · rcases List.mem_cons.1 hb with h2|h2
     · subst h2
       exact(h.1 (e▸List.mem_map_of_mem h1)).elim
     · exact born_unique h.2 a h1 b h2 e
def keyN(v:Value):Nat:=match v with
 | .int _ i=> i.toNat
 | _=> 0
def codeE(e:MapEntry):Option Value:=(readN (keyN e.key)).map fun n=> .int .i64 (n:Nat)
def badE(e:MapEntry):Bool:=(readN (keyN e.key)).isNone
def Lk.canRead(k:Lk)(c n:Nat):Bool:=k.sees c (64+2*n)
def Lk.bad(k:Lk)(c:Nat):Bool:=(List.range 128).any fun v=> k.sees c v&&(readN v).isNone
theorem codes_perm {k:Lk}{c:Nat}{es:Array MapEntry}{cl:Nat}(h:MapOk es cl (vF (k.sees c))):(es.toList.filterMap codeE).Perm (keepTo (k.canRead c) 32):=by
 have hkey:∀e∈es.toList,∃u:Nat,u<128∧e.key=.int .u8 (u:Nat)∧k.sees c u=true:=fun e he=> by
   obtain⟨_,u,h1,h2,h3⟩:=(h.mem e.key e.val).2 ⟨e,he,rfl,rfl⟩
   exact⟨u,h1,h2,h3⟩
 have nd1:(es.toList.filterMap codeE).Nodup:=by
   have hk:=h.keys
   rw[List.nodup_iff_pairwise_ne,List.pairwise_map] at hk
   rw[List.nodup_iff_pairwise_ne]
   rw[List.pairwise_filterMap]
   refine List.Pairwise.imp_of_mem ?_ hk
   intro a b ha hb hab x hx y hy e
   subst e
   obtain⟨u,u1,u2,_⟩:=hkey a ha
   obtain⟨w,w1,w2,_⟩:=hkey b hb
   unfold codeE keyN at hx hy
   rw[u2] at hx
   rw[w2] at hy
   simp only[Int.toNat_natCast] at hx hy
   cases hu:readN u with
   | none=> rw[hu] at hx;cases hx
   | some n=>
     cases hw:readN w with
     | none=> rw[hw] at hy;cases hy
     | some m=>
       rw[hu] at hx
       rw[hw] at hy
       simp only[Option.map_some,Option.some.injEq] at hx hy
       rw[←hx] at hy
       simp only[Value.int.injEq,true_and,Int.natCast_inj] at hy
       subst hy
       have hm:=readN_lt hu
       have e1:=(readN_iff u u1 m hm).1 hu
       have e2:=(readN_iff w w1 m hm).1 hw
       exact hab (by rw[u2,w2,e1,e2])
 have nd2:(keepTo (k.canRead c) 32).Nodup:=by
   unfold keepTo
   rw[List.nodup_iff_pairwise_ne,List.pairwise_map]
   refine List.Pairwise.imp ?_ (List.Pairwise.filter _ (List.nodup_iff_pairwise_ne.1 List.nodup_range))
   intro a b hab e
   simp only[Value.int.injEq,true_and,Int.natCast_inj] at e
   exact hab e
 refine(List.perm_ext_iff_of_nodup nd1 nd2).2 fun v=> ?_
 unfold keepTo
 simp only[List.mem_filterMap,List.mem_map,List.mem_filter,List.mem_range]
 constructor
 · rintro⟨e,he,h1⟩
   obtain⟨u,u1,u2,u3⟩:=hkey e he
   unfold codeE keyN at h1
   rw[u2] at h1
   simp only[Int.toNat_natCast] at h1
   cases hu:readN u with
   | none=> rw[hu] at h1;cases h1
   | some n=>
     rw[hu] at h1
     simp only[Option.map_some,Option.some.injEq] at h1
     have hn:=readN_lt hu
     have e1:=(readN_iff u u1 n hn).1 hu
     exact⟨n,⟨hn,by unfold Lk.canRead;rw[←e1];exact u3⟩,h1⟩
 · rintro⟨n,⟨h1,h2⟩,rfl⟩
   obtain⟨e,he,h3,_⟩:=(h.mem (.int .u8 ((64+2*n:Nat):Int)) (.bool true)).1 ⟨rfl,64+2*n,by omega,rfl,h2⟩
   refine⟨e,he,?_⟩
   unfold codeE keyN
   rw[h3]
   simp only[Int.toNat_natCast]
   rw[(readN_iff (64+2*n) (by omega) n h1).2 rfl]
   rfl
theorem bad_any {k:Lk}{c:Nat}{es:Array MapEntry}{cl:Nat}(h:MapOk es cl (vF (k.sees c))):es.toList.any badE=k.bad c:=by
 unfold Lk.bad
 rw[Bool.eq_iff_iff,List.any_eq_true,List.any_eq_true]
 constructor
 · rintro⟨e,he,h1⟩
   obtain⟨_,u,u1,u2,u3⟩:=(h.mem e.key e.val).2 ⟨e,he,rfl,rfl⟩
   refine⟨u,List.mem_range.2 u1,?_⟩
   unfold badE keyN at h1
   rw[u2] at h1
   rw[u3]
   exact h1
 · rintro⟨u,hu,h1⟩
   rw[Bool.and_eq_true] at h1
   obtain⟨e,he,h3,_⟩:=(h.mem (.int .u8 (u:Nat)) (.bool true)).1 ⟨rfl,u,List.mem_range.1 hu,rfl,h1.1⟩
   refine⟨e,he,?_⟩
   unfold badE keyN
   rw[h3]
   exact h1.2
def Lk.refused(k:Lk)(c:Nat):Int:=if k.bad c then(if(keepTo (k.canRead c) 32).length=0 then 1 else 0) else 2
def ReadsQ(l:List Value)(r:Int)(H:View)(v:Value)(H':View):Prop:=H.le H'∧∃g:Gl 3 1,v=.tuple ⟨[g.val,.int .i64 r,.int .i64 0]⟩∧g.l=l∧∀y∈g.bl,H' y.1=some y.2∧H y.1=none
section
variable(M:Md Tryz.prog)(H:View)
theorem Reads_one(k:Lk)(code:Nat)(hG:Glob H)(hk:k.ok=true)(hc:code<32)(h1:(keepTo (k.canRead code) 32).length≤1):CallT M 21 #[k.val,.int .i64 code] H (ReadsQ (keepTo (k.canRead code) 32) (k.refused code) H):=by
 refine CallT.enter (vs:= [k.val,.int .i64 code]) Tryz.func21 rfl Tryz.ntmps21 (Nat.le_of_ble_eq_true rfl) (SymSt.nil _) fun St c cs hK=> ?_
 refine .sr ?_
 refine .e (.bx (zz:=fun b2=> ?_))
 refine .g ?_
 refine .g ?_
 refine .g ?_
 refine .done (.sr ?_)
 refine .x (.ld 0) ?_
 refine .m ?_
 refine .e (Or.callNew (fun x=> .tuple ⟨[k.val,letN code x,.int .i64 0]⟩) (letB code) (fun _=> True) rfl rfl rfl rfl rfl (by decide) (letB_nodup code) (fun H hs=> .f ca89 rfl (open_n M H k code (glob_le hG hs.base) hk hc)) (fun x hx=> ?_))
 refine .m ?_
 refine .x .et ?_
 refine .x .et ?_
 refine .x .et ?_
 refine .e (.al (zz:=fun b7=> ?_))
 refine .e (.al (zz:=fun b8=> ?_))
 refine .e (.st 1 (zz:=?_))
 refine .e (.st 0 (zz:=?_))
 refine .g ?_
 refine .done (.seq (.sr ?_))
 refine .m ?_
 refine .i ?_ (z:=neq_f (by omega))
 refine .done (.ff rfl (.skip (.sr ?_)))
 refine .g ?_
 refine .done (.seq (.sr ?_))
 refine .x (.ld 1) ?_
 refine .x (.ld 0) ?_
 refine .e (Or.callNew (fun y:Nat×Array MapEntry×Nat=> .map (some y.1)) (fun y=> [(y.1,true,.map y.2.1 y.2.2)]) (fun y=> MapOk y.2.1 y.2.2 (vF (k.sees code))) rfl rfl rfl rfl rfl (by decide) (fun _=> by simp) (fun H hs=> .f ca90 rfl (CallT.mono (all90_c M H k (Lk.fine hk) code x.1 x.2.1 hc (edg_of fun y hy=> hs.at_ y (by simp[hy]))) (by rintro v H' ⟨h1,m,es,cl,h2,h3,h4,h5⟩;exact⟨h1,(m,es,cl),h2,h5,by simp[h3,h4]⟩))) (fun y hm=> ?_))
 obtain⟨m,es,cl⟩:=y
 simp only at hm
 have hperm:=codes_perm hm
 have hbad:=bad_any hm
 refine .e (Or.range (E:=en) (es:=es) (cl:=cl) rfl rfl (fun H hs=> ⟨true,hs.at_ (m,true,.map es cl) (by simp)⟩) rfl rfl rfl (by decide) (fun it=> ?_))
 refine .done ?_
 refine Tc.lift (L₂:= [(it,true,.mapIter (some m) cl #[] cl)]) rfl (fun Hm hsm=> ?_)
 have hmap:Hm m=some (true,.map es cl):=hsm.at_ (m,true,.map es cl) (by simp)
 have hfr:∀b x,Hm b=none→H b=some x→False:=fun b x h2 h3=> by rw[hsm.base _ _ h3] at h2;cases h2
 refine .block ?_
 refine Tc.db (Tc.loopInv (σ:= { s:Array Nat×Gl 3 1×Bool//(s.2.1.l++(unseen es s.1).filterMap codeE).Perm (keepTo (k.canRead code) 32)∧(s.2.2||(unseen es s.1).any badE)=k.bad code })
   (fun s=> ([(26,.pointer (some ⟨it,0,none⟩)),(4,s.1.2.1.val),(9,.bool s.1.2.2)],[(it,true,.mapIter (some m) cl s.1.1 cl)]++s.1.2.1.bl)) (fun s=> (unseen es s.1.1).length) ?_ ⟨(#[],Gl.nil 3 1,false),by rw[unseen_start];exact hperm,by rw[unseen_start,hbad];rfl⟩)
 rintro⟨⟨seen,g,bd⟩,g1,g2⟩ ih
 simp only at g1 g2
 have hgl:=g1.length_eq
 rw[List.length_append] at hgl
 have hgn:=g.hl
 rw[Nat.mul_one] at hgn
 show Tc M St _ _ _ _ [(26,.pointer (some ⟨it,0,none⟩)),(4,g.val),(9,.bool bd)] ([(it,true,.mapIter (some m) cl seen cl)]++g.bl) _ _
 refine .sr ?_
 refine .e (Or.next (es:=es) 0 rfl rfl rfl (fun H hs=> ⟨true,hs.base _ _ hmap⟩) hm.lt rfl (by decide) (fun e he hse=> ?_) (fun hall=> ?_))
 · have hp:=unseen_next hm.borns he hse
   obtain⟨_,u,u1,u2,u3⟩:=(hm.mem e.key e.val).2 ⟨e,he,rfl,rfl⟩
   have hfind:es.find? (fun x=> x.born==e.born)=some e:=by
     rw[←Array.find?_toList]
     cases hf:es.toList.find? (fun x=> x.born==e.born) with
     | none=> have:=List.find?_eq_none.1 hf e he;simp at this
     | some e'=>
       have h3:=List.mem_of_find?_eq_some hf
       have h4:=List.find?_some hf
       simp only[beq_iff_eq] at h4
       rw[born_unique hm.borns e' h3 e he h4]
   refine .x .et ?_
   refine .done (.seq (.tt rfl (.skip (.block (.sr ?_)))))
   refine .e (Or.entry (es:=es) (e:=e) (st:=e.born) rfl rfl (fun H hs=> ⟨true,hs.get (i:=0) rfl⟩) (fun H hs=> ⟨true,hs.base _ _ hmap⟩) (by simp) hfind rfl (by decide) ?_)
   rw[u2]
   refine .x .et ?_
   refine .g ?_
   refine .done (.seq ?_)
   have hc1:=hp.filterMap codeE
   have hb1:=hp.any_eq (f:=badE)
   have hbE:badE e=(readN u).isNone:=by unfold badE keyN;rw[u2];rfl
   have hcE:codeE e=(readN u).map fun n=> .int .i64 (n:Nat):=by unfold codeE keyN;rw[u2];rfl
   cases hu:readN u with
   | none=>
     rw[hu] at hbE hcE
     refine .r ?_
     refine .m ?_
     refine .c rfl rfl rfl rfl (fun H hs=> .f ca91 rfl (CallT.is (.tuple ⟨[.int .i64 0,.bool false]⟩) (by rewrite [hu];rfl) (read_c M H u u1))) ?_
     refine .m ?_
     refine .x .et ?_
     refine .x .et ?_
     refine .g ?_
     refine .g ?_
     refine .done (.sr ?_)
     refine .m ?_
     refine .done (.ff rfl (.r ?_))
     refine .g ?_
     refine .done (.inBlock ?_)
     exact Tc.db (ih ⟨(seen.push e.born,g,true),by simp only;rw[List.filterMap_cons_none hcE] at hc1;exact(List.Perm.append_left _ hc1.symm).trans g1,by simp only;rw[←g2,hb1,List.any_cons,hbE];simp⟩ (by simp only;rw[hp.length_eq];simp))
   | some n=>
     rw[hu] at hbE hcE
     have hn:=readN_lt hu
     have hroom:g.n+1≤1:=by
       rw[←hgn]
       have h5:=hc1.length_eq
       rw[List.filterMap_cons_some hcE,List.length_cons] at h5
       omega
     refine .r ?_
     refine .m ?_
     refine .c rfl rfl rfl rfl (fun H hs=> .f ca91 rfl (CallT.is (.tuple ⟨[.int .i64 (n:Nat),.bool true]⟩) (by rewrite [hu];rfl) (read_c M H u u1))) ?_
     refine .m ?_
     refine .x .et ?_
     refine .x .et ?_
     refine .g ?_
     refine .g ?_
     refine .done (.sr ?_)
     refine .m ?_
     refine .done (.tt rfl (.r ?_))
     refine .m ?_
     refine .m ?_
     refine .e (.bs (zz:=fun bs=> ?_))
     refine .e (Or.append (E:=en) 2 rfl rfl rfl rfl rfl rfl rfl rfl rfl rfl rfl rfl rfl rfl rfl (fun H hs=> SrcAt.of (hs.get (i:=0) rfl) (Nat.le_of_ble_eq_true rfl)) rfl (by omega) rfl (by decide) (fun g' hn' hl=> ?_))
     refine .g ?_
     refine .done (.inBlock ?_)
     exact Tc.db (ih ⟨(seen.push e.born,g',bd),by simp only;rw[hl,List.append_assoc];rw[List.filterMap_cons_some hcE] at hc1;exact(List.Perm.append_left _ hc1.symm).trans g1,by simp only;rw[←g2,hb1,List.any_cons,hbE];simp⟩ (by simp only;rw[hp.length_eq];simp))
 · have hun:=unseen_done hall
   rw[hun] at g1 g2
   simp only[List.filterMap_nil,List.append_nil,List.any_nil,Bool.or_false] at g1 g2
   have hle1:g.n≤1:=by have:=g1.length_eq;omega
   have hgl2:g.l=keepTo (k.canRead code) 32:=by
     have h3:=g1.length_eq
     match hx:g.l,hy:keepTo (k.canRead code) 32 with
     | [],[]=> rfl
     | [a],[b]=> rw[hx,hy] at g1;exact List.perm_singleton.1 g1.symm▸rfl
     | [],_::_=> rw[hx,hy] at h3;simp at h3
     | _::_,[]=> rw[hx,hy] at h3;simp at h3
     | _::_::_,_=> rw[hx] at hgn;simp at hgn;omega
     | _,_::_::_=> rw[hy] at h1;simp at h1
   subst g2
   refine .x .et ?_
   refine .done (.seq (.ff rfl (.exit rfl (.sr ?_))))
   refine .m ?_
   refine .c rfl rfl rfl rfl (fun H hs=> .f ca92 rfl (Sort_one M H _ g.n g.cap hle1)) ?_
   refine .done (.seq (.block (.seq ?_)))
   cases hbd:k.bad code with
   | false=>
     have hr:k.refused code=2:=by unfold Lk.refused;rw[hbd];rfl
     refine .r ?_
     refine .m ?_
     refine .x .nt ?_
     refine .g ?_
     refine .done (.tt rfl (.sr ?_))
     refine .m ?_
     refine .g ?_
     refine .g ?_
     refine .g ?_
     refine .done ?_
     refine .rt hK Tryz.func21 Tryz.results21 [_,_,_] ?_
     exact fun H' hs=> ⟨View.le_trans hsm.base hs.base,g,by rw[hr];rfl,hgl2,fun y hy=> ⟨hs.at_ y (by simp[hy]),by cases h:H y.1 with|none=> rfl|some x=> exact(hfr _ x (hs.out y (by simp[hy])) h).elim⟩⟩
   | true=>
     refine .r ?_
     refine .m ?_
     refine .x .nt ?_
     refine .g ?_
     refine .done (.ff rfl (.seq ?_))
     by_cases h0:g.n=0
     · have hr:k.refused code=1:=by unfold Lk.refused;rw[hbd,←hgl2,hgn,h0];rfl
       refine .r ?_
       refine .m ?_
       refine .x .ln ?_
       refine .i ?_ (z:=eql_t (by omega))
       refine .g ?_
       refine .done (.tt rfl (.sr ?_))
       refine .g ?_
       refine .g ?_
       refine .g ?_
       refine .done ?_
       refine .rt hK Tryz.func21 Tryz.results21 [_,_,_] ?_
       exact fun H' hs=> ⟨View.le_trans hsm.base hs.base,Gl.nil 3 1,by rw[hr];rfl,by rw[←hgl2];exact(List.eq_nil_of_length_eq_zero (by omega)).symm,by simp[Gl.nil,Gl.bl]⟩
     · have hr:k.refused code=0:=by unfold Lk.refused;rw[hbd,←hgl2,hgn,if_pos rfl,if_neg h0]
       refine .r ?_
       refine .m ?_
       refine .x .ln ?_
       refine .i ?_ (z:=eql_f (by omega))
       refine .g ?_
       refine .done (.ff rfl (.skip (.inBlock (.sr ?_))))
       refine .m ?_
       refine .g ?_
       refine .g ?_
       refine .g ?_
       refine .done ?_
       refine .rt hK Tryz.func21 Tryz.results21 [_,_,_] ?_
       exact fun H' hs=> ⟨View.le_trans hsm.base hs.base,g,by rw[hr];rfl,hgl2,fun y hy=> ⟨hs.at_ y (by simp[hy]),by cases h:H y.1 with|none=> rfl|some x=> exact(hfr _ x (hs.out y (by simp[hy])) h).elim⟩⟩
end
end Go.Proofs.YtpdaenfglbgfkaaGreatDoor
end
section
namespace Go.Proofs.YtpdaenfglbgfkaaGreatDoor
open Go.RL
set_option maxRecDepth 10000
set_option maxHeartbeats 4000000
theorem letterOf_m(M:Md Tryz.prog)(H:View)(code:Nat)(h1:code<32):CallT M 113 #[.int .i64 code] H (fun v H'=> H.le H'∧∃x,v=letN code x∧(placesTo code 7).length≤x.2.1∧∀y∈letB code x,H' y.1=some y.2∧H y.1=none):=
 CallT.mono (letterOf_c M H code h1) (by
   rintro v H' ⟨h2,g,rfl,h3,h4,h5⟩
   obtain⟨b,hb⟩:=gl_some g (by rw[h3];exact(places_in code h1).1)
   refine⟨h2,(b,g.cap,g.junk),?_,by rw[←h3];exact g.hc,fun y hy=> h5 y ?_⟩
   · unfold letN Gl.val
     rw[hb,h3]
     rfl
   · unfold Gl.bl
     rw[hb,h4]
     exact hy)
theorem open_m(M:Md Tryz.prog)(H:View)(k:Lk)(code:Nat)(hG:Glob H)(hk:k.ok=true)(hc:code<32):CallT M 89 #[k.val,.int .i64 code] H (fun v H'=> H.le H'∧∃x:Nat×Nat×List Value,v=.tuple ⟨[k.val,letN code x,.int .i64 0]⟩∧(placesTo code 7).length≤x.2.1∧∀y∈letB code x,H' y.1=some y.2∧H y.1=none):=
 CallT.mono (open_yes M H k code hG hk hc) (by
   rintro v H' ⟨h2,g,rfl,⟨h3,h4⟩,h5⟩
   obtain⟨b,hb⟩:=gl_some g (by rw[h3];exact(places_in code hc).1)
   refine⟨h2,(b,g.cap,g.junk),?_,by rw[←h3];exact g.hc,fun y hy=> h5 y ?_⟩
   · unfold letterV letN Gl.val
     rw[hb,h3]
     rfl
   · unfold Gl.bl
     rw[hb,h4]
     exact hy)
theorem eg135:Tryz.prog.eqGuardType Tryz.prog.depth 135=false:=by kernel_rfl
theorem ints_flat(l:List Int)(h:l.length=6):flat en 2 135 (intsL l):=by
 refine⟨_,rfl,by rw[intsL_len,h];rfl,fun i hi=> ⟨l[i]?.getD 0,?_⟩⟩
 have h3:i<l.length:=by rw[h];exact hi
 unfold chunk
 show((intsL l).drop (i*1)).take 1=_
 rw[Nat.mul_one]
 unfold intsL
 have h4:i<(l.map fun x=> Value.int .i64 x).length:=by rw[List.length_map];exact h3
 rw[List.drop_eq_getElem_cons h4,List.getElem_map,List.getElem?_eq_getElem h3]
 rfl
def gMove(ps:List Nat)(send lean n:Int)(af:List Int)(i:Nat):Int:=stillF (ps[0]?.getD 0:Nat) 0 send lean+n+af[i+1]?.getD 0-stillF (ps[i+1]?.getD 0:Nat) (i+1:Nat) send lean
def gMoves(ps:List Nat)(send lean n:Int)(af:List Int)(d:Nat):List Int:=n::(List.range d).map (gMove ps send lean n af)
def Lk.inMove(k:Lk)(x:Int):Bool:=decide (k.m0≤x∧x≤k.m1)
def Lk.gives₂(k:Lk)(ps:List Nat)(send lean n:Int)(af:List Int):Bool:=
 ((List.range (ps.length-1)).all fun i=> k.inMove (gMove ps send lean n af i))&&(afterTo (seenTo ps (gMoves ps send lean n af (ps.length-1)) send lean ps.length) ps.length==af)
def Lk.gives₁(k:Lk)(ps:List Nat)(send lean:Int)(af:List Int)(l:List Int):Bool:=l.any fun n=> k.gives₂ ps send lean n af
def Lk.gives(k:Lk)(ps:List Nat)(send:Int)(af:List Int):Bool:=(upTo k.l0 k.l1).any fun lean=> k.gives₁ ps send lean af (upTo k.m0 k.m1)
theorem intsL_ld {l:List Int}{i:Nat}(h:i<l.length):ldL false 1 (intsL l) (0+i*1)=some (.int .i64 (l[i]?.getD 0)):=by
 show(intsL l)[0+i*1]? =_
 rw[Nat.zero_add,Nat.mul_one]
 unfold intsL
 rw[List.getElem?_map,List.getElem?_eq_getElem h]
 rfl
theorem gMoves_succ(ps:List Nat)(send lean n:Int)(af:List Int)(d:Nat):gMoves ps send lean n af (d+1)=gMoves ps send lean n af d++[gMove ps send lean n af d]:=by
 unfold gMoves
 rw[List.range_succ,List.map_append]
 rfl
theorem gMoves_len(ps:List Nat)(send lean n:Int)(af:List Int)(d:Nat):(gMoves ps send lean n af d).length=d+1:=by simp[gMoves]
theorem gMoves_in {k:Lk}{ps:List Nat}{send lean n:Int}{af:List Int}{d:Nat}(hm: -1000≤k.m0∧k.m1≤1000)(hn:k.m0≤n∧n≤k.m1)(h:∀i,i<d→k.inMove (gMove ps send lean n af i)=true)(i:Nat): -1000≤(gMoves ps send lean n af d)[i]?.getD 0∧(gMoves ps send lean n af d)[i]?.getD 0≤1000:=by
 by_cases e:i<(gMoves ps send lean n af d).length
 · rw[List.getElem?_eq_getElem e]
   have hmem:=List.getElem_mem e
   simp only[Option.getD_some]
   generalize (gMoves ps send lean n af d)[i]=z at hmem
   unfold gMoves at hmem
   rcases List.mem_cons.1 hmem with rfl|hmem
   · omega
   · obtain⟨j,hj,rfl⟩:=List.mem_map.1 hmem
     have:=h j (List.mem_range.1 hj)
     unfold Lk.inMove at this
     rw[decide_eq_true_iff] at this
     omega
 · rw[List.getElem?_eq_none (by omega)]
   simp
theorem intsL_inj:∀ {l m:List Int},intsL l=intsL m→l=m
 | [],[],_=> rfl
 | [],_::_,h=> by cases h
 | _::_,[],h=> by cases h
 | a::l,b::m,h=> by
   have h1:Value.int .i64 a::intsL l=Value.int .i64 b::intsL m:=h
   injection h1 with h2 h3
   injection h2 with _ h4
   rw[h4,intsL_inj h3]
section
variable(M:Md Tryz.prog)(H:View)
def gL(code eb ec:Nat)(k:Lk)(send:Int)(af:List Int)(found:Bool)(b4 b5 b6 b7 b8 b9:Nat):Bl:=
 [(b9,true,.cells ⟨[.int .i64 k.m0,.int .i64 k.m1]⟩ 180 (0,0)),(b8,true,.cells ⟨[.bool found]⟩ 4 (0,0)),(b7,true,.cells ⟨intsL af⟩ 135 (0,0)),(b6,true,.cells ⟨[.int .i64 send]⟩ 3 (0,0)),(b5,true,.cells ⟨[.int .i64 code,.slice (some ⟨eb,0,none⟩) (placesTo code 7).length ec]⟩ 112 (0,0)),
   (b4,true,.cells ⟨k.val.cells.toList⟩ 109 (0,0))]
theorem gives_c(k:Lk)(hk:k.Fine)(code eb ec:Nat)(send:Int)(af:List Int)(hc:code<32)(hE:Edg H (placesTo code 7) eb)(hec:(placesTo code 7).length≤ec)(h2:2≤(placesTo code 7).length)(h6:af.length=6)(hb:∀x∈af, -100000≤x∧x≤100000)(hs0:0≤send∧send≤1000):
   CallT M 157 #[k.val,.agg ⟨[.int .i64 code,.slice (some ⟨eb,0,none⟩) (placesTo code 7).length ec]⟩,.int .i64 send,timesV af] H (fun v H'=> H.le H'∧v=.bool (k.gives (placesTo code 7) send af)):=by
 obtain⟨hp0,hp6,hpl⟩:=places_in code hc
 have hbd:=hk.bounds
 simp only[List.mem_cons,List.not_mem_nil,or_false,forall_eq_or_imp,forall_eq] at hbd
 obtain⟨k1,k2,k3,k4,k5,k6,k7,k8⟩:=hbd
 have hkl:=hk.l
 have hkm:=hk.m
 refine CallT.enter (vs:= [k.val,.agg ⟨[.int .i64 code,.slice (some ⟨eb,0,none⟩) (placesTo code 7).length ec]⟩,.int .i64 send,timesV af]) Tryz.func157 rfl Tryz.ntmps157 (Nat.le_of_ble_eq_true rfl) (SymSt.nil _) fun St c cs hK=> ?_
 refine .sr ?_
 refine .e (.bx (zz:=fun b4=> ?_))
 refine .e (.bx (zz:=fun b5=> ?_))
 refine .e (.bx (zz:=fun b6=> ?_))
 refine .e (.bx (zz:=fun b7=> ?_))
 refine .e (.al (zz:=fun b8=> ?_))
 refine .done (.sr ?_)
 refine .x .fa ?_
 refine .x .fa ?_
 refine .x .fa ?_
 refine .x (.ld 4) ?_
 refine .c rfl rfl rfl rfl (fun H hs=> .f ca155 rfl (bandOf_c M H k.m0 k.m1)) ?_
 refine .e (.al (zz:=fun b9=> ?_))
 refine .e (.st 0 (zz:=?_))
 refine .done (.seq (.sr ?_))
 refine .x .fa ?_
 refine .x .fa ?_
 refine .x .fa ?_
 refine .x (.ld 5) ?_
 refine .c rfl rfl rfl rfl (fun H hs=> .f ca155 rfl (bandOf_c M H k.l0 k.l1)) ?_
 refine .x .mf ?_
 refine .done (.block ?_)
 have itL:=fun H (_:(fun _:View=> True) H)=> all_it M H k.l0 k.l1 (by omega) (by omega)
 have itM:=fun H (_:(fun _:View=> True) H)=> all_it M H k.m0 k.m1 (by omega) (by omega)
 refine Tc.db (R':= [(27,.func (.func 156) #[bandV k.l0 k.l1] #[]),(5,.pointer (some ⟨b5,0,none⟩)),(6,.pointer (some ⟨b6,0,none⟩)),(7,.pointer (some ⟨b7,0,none⟩)),(8,.pointer (some ⟨b8,0,none⟩)),(9,.pointer (some ⟨b9,0,none⟩))]) (L':=gL code eb ec k send af false b4 b5 b6 b7 b8 b9) ?_
 refine Tc.rangeL (A:= []) (xs:=upTo k.l0 k.l1) (ts:= [28]) (fun rest H₁ L₁=> L₁=gL code eb ec k send af false b4 b5 b6 b7 b8 b9∧H.le H₁∧(rest.any fun lean=> k.gives₁ (placesTo code 7) send lean af (upTo k.m0 k.m1))=k.gives (placesTo code 7) send af)
   (fun j H₁ L₁=> j=.ret∧H.le H₁∧k.gives (placesTo code 7) send af=true∧L₁=gL code eb ec k send af true b4 b5 b6 b7 b8 b9) rfl rfl rfl rfl itL (fun _ _ _ h=> h) (fun _ _ _ _=> trivial) rfl (fun _ _=> rfl) ⟨rfl,View.le_refl _,rfl⟩ ?_ ?_ ?_
 · rintro r lean rest e l tmps asg bdy H₁ _ hl ⟨rfl,hle1,hany⟩ Q1 St1 cc1 cs1 hK1 q1 q1'
   have hl':=mem_upTo.1 hl
   unfold gL
   refine .r ?_
   refine .e (.al (zz:=fun b10=> ?_))
   refine .e (.st 0 (zz:=?_))
   refine .done ?_
   refine Tc.beginRound (i:=1) rfl rfl rfl ?_
   refine .block ?_
   refine Tc.scope ?_
   refine .seq ?_
   refine Tc.label ?_
   refine .sr ?_
   refine .x (.ld 3) ?_
   refine .x .mf ?_
   refine .done (.block ?_)
   refine Tc.rangeLIn (A:= []) (i:=1) (xs:=upTo k.m0 k.m1) (ts:= [31]) (fun rest2 H₂ L₂=> L₂=(b10,true,.cells ⟨[.int .i64 lean]⟩ 3 (0,0))::(l,true,.loop { Loop.fresh 157 tmps [28].toArray asg bdy r with state:=.busy })::(r,true,.deferred (some []))::gL code eb ec k send af false b4 b5 b6 b7 b8 b9∧H.le H₂∧k.gives₁ (placesTo code 7) send lean af rest2=k.gives₁ (placesTo code 7) send lean af (upTo k.m0 k.m1))
     (fun j H₂ L₂=> j=.ret∧H.le H₂∧k.gives (placesTo code 7) send af=true∧L₂=(b10,true,.cells ⟨[.int .i64 lean]⟩ 3 (0,0))::(l,true,.loop { Loop.fresh 157 tmps [28].toArray asg bdy r with state:=.busy })::(r,true,.deferred (some []))::gL code eb ec k send af true b4 b5 b6 b7 b8 b9)
     rfl rfl rfl rfl rfl itM (fun _ _ _ h=> h) (fun _ _ _ _=> trivial) rfl (fun _ _=> rfl) ⟨rfl,hle1,rfl⟩ ?_ ?_ ?_
   · rintro n rest2 e2 l2 tmps2 asg2 bdy2 H₂ _ hn ⟨rfl,hle2,hany2⟩ Q2 St2 cc2 cs2 hK2 q2 q2'
     have hn':=mem_upTo.1 hn
     unfold gL
     refine .r ?_
     refine .g ?_
     refine .done ?_
     refine Tc.beginRound (i:=0) rfl rfl rfl ?_
     refine .block (.sr ?_)
     refine .x (.ld 7) ?_
     refine .x (.ld 1) ?_
     refine .m ?_
     refine .e (.bs (zz:=fun bs=> ?_))
     refine .x .bu ?_
     refine .e (.al (zz:=fun b12=> ?_))
     refine .e (.st 0 (zz:=?_))
     refine .done ?_
     refine Tc.lift (L₂:= [_,_]) rfl (fun Hx hx=> ?_)
     have x10:=hx.get (i:=1) rfl
     have x9:=hx.get (i:=4) rfl
     have x8:=hx.get (i:=5) rfl
     have x7:=hx.get (i:=6) rfl
     have x6:=hx.get (i:=7) rfl
     have x5:=hx.get (i:=8) rfl
     obtain⟨fe,es,et,ez,hE1,hE2⟩:=hE.le (View.le_trans hle2 hx.base)
     have f0:ldL true 2 es (0+(0:Int).toNat*2)=some (edgeV ((placesTo code 7)[0]?.getD 0) 0):=hE2 0 hp0
     have b0:=hpl 0 hp0
     have st0:=still_in (place:=((placesTo code 7)[0]?.getD 0:Nat)) (number:=((0:Nat):Int)) (send:=send) (lean:=lean) (by omega) (by omega) hs0.1 hs0.2 (by omega) (by omega)
     have st0':=still_in (place:=((placesTo code 7)[0]?.getD 0:Nat)) (number:=0) (send:=send) (lean:=lean) (by omega) (by omega) hs0.1 hs0.2 (by omega) (by omega)
     have f7:ldL true 6 (intsL af) 0=some (.agg ⟨intsL af⟩):=by
       unfold ldL
       have e1:Nat.ble (0+6) (intsL af).length=true:=by rw[intsL_len,h6];rfl
       simp only[e1]
       rw[List.drop_zero,List.take_of_length_le (by rw[intsL_len,h6];exact Nat.le_refl _)]
     refine .seq ?_
     refine Tc.dr [] [] mixed rfl ?_
     refine .q 0 rfl .fa ?_
     refine .q 1 rfl .l0 ?_
     refine .q 2 rfl .ia ?_
     refine .q 3 rfl .l0 ?_
     refine .q 4 rfl .l0 ?_
     refine .q 5 rfl .l0 ?_
     refine .z 6 rfl (OpV.takeCall rfl rfl rfl rfl (fun H hs=> .f ca172 rfl (still_c M H ((placesTo code 7)[0]?.getD 0:Nat) ((0:Nat):Int) send lean (by omega) (by omega) (by omega) hs0.1 hs0.2 (by omega) (by omega)))) ?_
     refine .q 7 rfl .mv ?_
     refine .q 8 rfl (.it (zz:=add_in (by omega) (by omega))) ?_
     refine .q 9 rfl .sg ?_
     refine Ta.done (by kernel_rfl) ?_
     refine .seq (.sr ?_)
     refine .x .fa ?_
     refine .x .l0 ?_
     refine .x (OpV.slice (E:=en) (l:=1) (h:=((placesTo code 7).length:Nat)) (off':=0+1*2) rfl rfl rfl rfl rfl rfl rfl rfl (by omega) (by omega) (by omega) (by rw[if_neg (by omega)];rfl)) ?_
     refine .x .ln ?_
     refine .m ?_
     refine .done (.block ?_)
     refine Tc.dropB (Tc.loopInv (σ:= { s:Nat×Gl 3 1//s.1≤(placesTo code 7).length-1∧s.2.l=intsL (gMoves (placesTo code 7) send lean n af s.1)∧∀i,i<s.1→k.inMove (gMove (placesTo code 7) send lean n af i)=true })
       (fun s=> ([(50,.int .i64 (s.1.1:Nat)),(49,.int .i64 (((placesTo code 7).length-1:Nat):Int)),(48,.slice (some ⟨eb,0+1*2,none⟩) ((placesTo code 7).length-1) (ec-1)),(13,.int .i64 (stillF ((placesTo code 7)[0]?.getD 0:Nat) 0 send lean+n)),(12,.pointer (some ⟨b12,0,none⟩)),(10,.pointer (some ⟨b10,0,none⟩)),(5,.pointer (some ⟨b5,0,none⟩)),(6,.pointer (some ⟨b6,0,none⟩)),(7,.pointer (some ⟨b7,0,none⟩)),(8,.pointer (some ⟨b8,0,none⟩)),(9,.pointer (some ⟨b9,0,none⟩))],(b12,true,.cells ⟨[.int .i64 send,.int .i64 0,.int .i64 lean,s.1.2.val]⟩ 39 (0,0))::s.1.2.bl)) (fun s=> (placesTo code 7).length-1-s.1.1) ?_
       ⟨(0,⟨some bs,1,1,[.int .i64 n],[],rfl,Nat.le_refl _,rfl,nofun⟩),by simp,rfl,nofun⟩) ⟨rfl,rfl,rfl,rfl,rfl,rfl,rfl,rfl,rfl,rfl,rfl,trivial⟩ (List.Sublist.refl _)
     rintro⟨⟨j,g⟩,g1,g2,g3⟩ ih
     simp only at g1 g2 g3
     show Tc _ _ _ _ _ _ [(50,.int .i64 (j:Nat)),(49,.int .i64 (((placesTo code 7).length-1:Nat):Int)),(48,.slice (some ⟨eb,0+1*2,none⟩) ((placesTo code 7).length-1) (ec-1)),(13,.int .i64 (stillF ((placesTo code 7)[0]?.getD 0:Nat) 0 send lean+n)),(12,.pointer (some ⟨b12,0,none⟩)),(10,.pointer (some ⟨b10,0,none⟩)),(5,.pointer (some ⟨b5,0,none⟩)),(6,.pointer (some ⟨b6,0,none⟩)),(7,.pointer (some ⟨b7,0,none⟩)),(8,.pointer (some ⟨b8,0,none⟩)),(9,.pointer (some ⟨b9,0,none⟩))] ((b12,true,.cells ⟨[.int .i64 send,.int .i64 0,.int .i64 lean,g.val]⟩ 39 (0,0))::g.bl) _ _
     by_cases c1:j=(placesTo code 7).length-1
     · have hgn:g.n=(placesTo code 7).length:=by
         have h1:=g.hl
         rw[g2,intsL_len,gMoves_len] at h1
         omega
       obtain⟨_|vb,gn,gc,gll,gj,e1,e2,e3,e4⟩:=g
       · have:=e4 rfl
         simp only at hgn
         omega
       simp only at hgn g2
       subst hgn
       subst g2
       have hmv:=gMoves_in (ps:=placesTo code 7) (send:=send) (lean:=lean) (n:=n) (af:=af) hkm hn' g3
       rw[c1] at hmv g3
       have hV2:∀i:Nat,i<(placesTo code 7).length→ldL false 1 (intsL (gMoves (placesTo code 7) send lean n af ((placesTo code 7).length-1))++gj) (0+i*1)=some (.int .i64 ((gMoves (placesTo code 7) send lean n af ((placesTo code 7).length-1))[i]?.getD 0)):=fun i hi=> by
         have hi':i<(gMoves (placesTo code 7) send lean n af ((placesTo code 7).length-1)).length:=by rw[gMoves_len];omega
         have:=intsL_ld hi'
         unfold ldL at this ⊢
         simp only at this ⊢
         rw[List.getElem?_append_left (by rw[intsL_len];omega)]
         exact this
       have hsl:=afterTo_len (seenTo (placesTo code 7) (gMoves (placesTo code 7) send lean n af ((placesTo code 7).length-1)) send lean (placesTo code 7).length) (placesTo code 7).length
       rw[seenTo_len] at hsl
       have hsb:∀z∈seenTo (placesTo code 7) (gMoves (placesTo code 7) send lean n af ((placesTo code 7).length-1)) send lean (placesTo code 7).length, -1000000000≤z∧z≤1000000000:=by
         intro z hz
         unfold seenTo at hz
         obtain⟨i,hi,rfl⟩:=List.mem_map.1 hz
         split
         · rename_i hi2
           unfold seenAt
           have h1:=hmv i
           have h2:=hpl i hi2
           have h3:=still_in (place:=((placesTo code 7)[i]?.getD 0:Nat)) (number:=(i:Nat)) (send:=send) (lean:=lean) (by omega) (by omega) hs0.1 hs0.2 (by omega) (by omega)
           omega
         · omega
       subst c1
       have hall:((List.range ((placesTo code 7).length-1)).all fun i=> k.inMove (gMove (placesTo code 7) send lean n af i))=true:=by
         rw[List.all_eq_true]
         intro i hi
         exact g3 i (List.mem_range.1 hi)
       by_cases hq:afterTo (seenTo (placesTo code 7) (gMoves (placesTo code 7) send lean n af ((placesTo code 7).length-1)) send lean (placesTo code 7).length) (placesTo code 7).length=af
       · have hg2:k.gives₂ (placesTo code 7) send lean n af=true:=by
           unfold Lk.gives₂
           rw[hall,hq]
           simp
         have htot:k.gives (placesTo code 7) send af=true:=by
           rw[←hany,List.any_cons,←hany2]
           unfold Lk.gives₁
           rw[List.any_cons,hg2]
           rfl
         refine .sr ?_
         refine .i ?_ (z:=lss_f (by omega))
         refine .done (.seq (.ff rfl (.exit rfl (.seq ?_))))
         refine Tc.dr [] [] mixed rfl ?_
         refine .q 0 rfl .l0 ?_
         refine .q 1 rfl (.ld 0) ?_
         refine .z 2 rfl (OpV.takeCall rfl rfl rfl rfl (fun H hs=> .f ca135 rfl (seen_c M H (code:Int) send 0 lean (placesTo code 7) (gMoves (placesTo code 7) send lean n af ((placesTo code 7).length-1)) eb 0 ec vb 0 gc fe true es _ et 3 ez (0,0) (hs.base _ _ hE1) hE2 (hs.get (i:=1) rfl) hV2 hp6 hpl hmv hs0.1 hs0.2 (by omega) (by omega) _ (Nat.le_refl _)))) ?_
         refine .q 3 rfl .fa ?_
         refine .q 4 rfl .l0 ?_
         refine .q 5 rfl .ln ?_
         refine .z 6 rfl (OpV.takeCall rfl rfl rfl rfl (fun H hs=> .f ca137 rfl (after_c M H _ (placesTo code 7).length (seenTo_len ..) hp6 hsb))) ?_
         refine .q 7 rfl .l0 ?_
         refine .q 8 rfl (OpV.eqA (E:=en) true 2 rfl rfl rfl rfl rfl eg135 (by decide) (ints_flat _ hsl) (ints_flat af h6) ⟨fun _=> by rw[hq],fun _=> rfl⟩) ?_
         refine Ta.done (by kernel_rfl) ?_
         refine Tc.expand hx ?_
         refine .tt rfl (.sr ?_)
         refine .e (.st 7 (zz:=?_))
         refine .done ?_
         refine Tc.leaveRound hK2 (i:=2) rfl (.inr (.inl ⟨_,rfl,rfl⟩)) (fun H' hs'=> q2' H' _ _ _ (hs'.less (by apply List.Sublist.cons;apply List.Sublist.cons;exact List.Sublist.refl _)) ⟨rfl,hle2,htot,rfl⟩)
       · have hg2:k.gives₂ (placesTo code 7) send lean n af=false:=by
           unfold Lk.gives₂
           rw[hall]
           simp[hq]
         have hany3:k.gives₁ (placesTo code 7) send lean af rest2=k.gives₁ (placesTo code 7) send lean af (upTo k.m0 k.m1):=by
           rw[←hany2]
           unfold Lk.gives₁
           rw[List.any_cons,hg2]
           rfl
         refine .sr ?_
         refine .i ?_ (z:=lss_f (by omega))
         refine .done (.seq (.ff rfl (.exit rfl (.seq ?_))))
         refine Tc.dr [] [] mixed rfl ?_
         refine .q 0 rfl .l0 ?_
         refine .q 1 rfl (.ld 0) ?_
         refine .z 2 rfl (OpV.takeCall rfl rfl rfl rfl (fun H hs=> .f ca135 rfl (seen_c M H (code:Int) send 0 lean (placesTo code 7) (gMoves (placesTo code 7) send lean n af ((placesTo code 7).length-1)) eb 0 ec vb 0 gc fe true es _ et 3 ez (0,0) (hs.base _ _ hE1) hE2 (hs.get (i:=1) rfl) hV2 hp6 hpl hmv hs0.1 hs0.2 (by omega) (by omega) _ (Nat.le_refl _)))) ?_
         refine .q 3 rfl .fa ?_
         refine .q 4 rfl .l0 ?_
         refine .q 5 rfl .ln ?_
         refine .z 6 rfl (OpV.takeCall rfl rfl rfl rfl (fun H hs=> .f ca137 rfl (after_c M H _ (placesTo code 7).length (seenTo_len ..) hp6 hsb))) ?_
         refine .q 7 rfl .l0 ?_
         refine .q 8 rfl (OpV.eqA (E:=en) false 2 rfl rfl rfl rfl rfl eg135 (by decide) (ints_flat _ hsl) (ints_flat af h6) ⟨(fun h=> nomatch h),fun h=> (hq (intsL_inj h)).elim⟩) ?_
         refine Ta.done (by kernel_rfl) ?_
         refine Tc.expand hx ?_
         refine .ff rfl (.skip (.inBlock ?_))
         refine Tc.leaveRound hK2 (i:=2) rfl (.inl ⟨rfl,rfl⟩) (fun H' hs'=> q2 H' _ _ (hs'.less (by apply List.Sublist.cons;apply List.Sublist.cons;exact List.Sublist.refl _)) ⟨rfl,hle2,hany3⟩)
     · have c2:j<(placesTo code 7).length-1:=by omega
       have hgn:g.n=j+1:=by
         have h1:=g.hl
         rw[g2,intsL_len,gMoves_len] at h1
         omega
       have f1:ldL true 2 es ((0+1*2)+(j:Int).toNat*2)=some (edgeV ((placesTo code 7)[j+1]?.getD 0) (j+1)):=by
         rw[show(0+1*2)+(j:Int).toNat*2=0+(j+1)*2 by simp;omega]
         exact hE2 (j+1) (by omega)
       have f2:ldL false 1 (intsL af) (0+((j:Int)+1).toNat*1)=some (.int .i64 (af[j+1]?.getD 0)):=by
         rw[show((j:Int)+1).toNat=j+1 by omega]
         exact intsL_ld (by omega)
       have hb1:=hpl (j+1) (by omega)
       have st1:=still_in (place:=((placesTo code 7)[j+1]?.getD 0:Nat)) (number:=((j+1:Nat):Int)) (send:=send) (lean:=lean) (by omega) (by omega) hs0.1 hs0.2 (by omega) (by omega)
       have hbf: -100000≤af[j+1]?.getD 0∧af[j+1]?.getD 0≤100000:=by
         have hlt:j+1<af.length:=by omega
         rw[List.getElem?_eq_getElem hlt]
         exact hb _ (List.getElem_mem hlt)
       cases hin:k.inMove (gMove (placesTo code 7) send lean n af j) with
       | true=>
         refine .sr ?_
         refine .i ?_ (z:=lss_t (by omega))
         refine .done (.seq (.tt rfl (.skip (.seq (.block (.sr ?_))))))
         refine .m ?_
         refine .x .ia ?_
         refine .x .l0 ?_
         refine .e (.al (zz:=fun b15=> ?_))
         refine .g ?_
         refine .e (.st 0 (zz:=?_))
         refine .done (.seq ?_)
         refine Tc.dr [] [] mixed rfl ?_
         refine .q 0 rfl .mv ?_
         refine .q 1 rfl .mv ?_
         refine .q 2 rfl (.it (zz:=add_in (by omega) (by omega))) ?_
         refine .q 3 rfl .ib ?_
         refine .q 4 rfl .l0 ?_
         refine .q 5 rfl (.it (zz:=add_in (by omega) (by omega))) ?_
         refine .q 6 rfl (.ld 0) ?_
         refine .q 7 rfl .l0 ?_
         refine .q 8 rfl .l0 ?_
         refine .z 9 rfl (OpV.takeCall rfl rfl rfl rfl (fun H hs=> .f ca172 rfl (still_c M H ((placesTo code 7)[j+1]?.getD 0:Nat) ((j+1:Nat):Int) send lean (by omega) (by omega) (by omega) hs0.1 hs0.2 (by omega) (by omega)))) ?_
         refine .q 10 rfl (.it (zz:=sub_in (by omega) (by omega))) ?_
         refine .q 11 rfl .sg ?_
         refine Ta.done (by kernel_rfl) ?_
         refine .seq (.sr ?_)
         refine .x .l0 ?_
         refine .m ?_
         refine .c rfl rfl rfl rfl (fun H hs=> .f ca169 rfl (CallT.mono (has_c M H k.m0 k.m1 (gMove (placesTo code 7) send lean n af j)) (Q':=fun v H'=> H.le H'∧v=.bool true) (by rintro v H' ⟨h1,h2⟩;unfold Lk.inMove at hin;rw[hin] at h2;exact⟨h1,h2⟩))) ?_
         refine .x .nt ?_
         refine .done (.ff rfl (.skip (.r ?_)))
         refine .x .fa ?_
         refine .x (.ld 1) ?_
         refine .m ?_
         refine .e (.bs (zz:=fun bs2=> ?_))
         refine .e (Or.append (E:=en) 3 rfl rfl rfl rfl rfl rfl rfl rfl rfl rfl rfl rfl rfl rfl rfl (fun H hs=> SrcAt.of (hs.get (i:=0) rfl) (Nat.le_of_ble_eq_true rfl)) rfl (by omega) rfl (by decide) (fun g' hn2 hl2=> ?_))
         refine .x .fa ?_
         refine .e (.st 2 (zz:=?_))
         refine .done (.inBlock (.r ?_))
         refine .i ?_ (z:=add_in (by omega) (by omega))
         refine .m ?_
         refine .done ?_
         exact Tc.db (ih ⟨(j+1,g'),by simp only;omega,by simp only;rw[hl2,g2,gMoves_succ];unfold intsL;rw[List.map_append];rfl,by simp only;intro i hi;rcases Nat.lt_succ_iff_lt_or_eq.1 hi with h|rfl;exact g3 i h;exact hin⟩ (by simp only;omega))
       | false=>
         have hg2:k.gives₂ (placesTo code 7) send lean n af=false:=by
           unfold Lk.gives₂
           rw[Bool.and_eq_false_iff]
           refine .inl ?_
           rw[List.all_eq_false]
           exact⟨j,List.mem_range.2 c2,by rw[hin];simp⟩
         have hany3:k.gives₁ (placesTo code 7) send lean af rest2=k.gives₁ (placesTo code 7) send lean af (upTo k.m0 k.m1):=by
           rw[←hany2]
           unfold Lk.gives₁
           rw[List.any_cons,hg2]
           rfl
         refine .sr ?_
         refine .i ?_ (z:=lss_t (by omega))
         refine .done (.seq (.tt rfl (.skip (.seq (.block (.sr ?_))))))
         refine .m ?_
         refine .x .ia ?_
         refine .x .l0 ?_
         refine .e (.al (zz:=fun b15=> ?_))
         refine .g ?_
         refine .e (.st 0 (zz:=?_))
         refine .done (.seq ?_)
         refine Tc.dr [] [] mixed rfl ?_
         refine .q 0 rfl .mv ?_
         refine .q 1 rfl .mv ?_
         refine .q 2 rfl (.it (zz:=add_in (by omega) (by omega))) ?_
         refine .q 3 rfl .ib ?_
         refine .q 4 rfl .l0 ?_
         refine .q 5 rfl (.it (zz:=add_in (by omega) (by omega))) ?_
         refine .q 6 rfl (.ld 0) ?_
         refine .q 7 rfl .l0 ?_
         refine .q 8 rfl .l0 ?_
         refine .z 9 rfl (OpV.takeCall rfl rfl rfl rfl (fun H hs=> .f ca172 rfl (still_c M H ((placesTo code 7)[j+1]?.getD 0:Nat) ((j+1:Nat):Int) send lean (by omega) (by omega) (by omega) hs0.1 hs0.2 (by omega) (by omega)))) ?_
         refine .q 10 rfl (.it (zz:=sub_in (by omega) (by omega))) ?_
         refine .q 11 rfl .sg ?_
         refine Ta.done (by kernel_rfl) ?_
         refine .seq (.sr ?_)
         refine .x .l0 ?_
         refine .m ?_
         refine .c rfl rfl rfl rfl (fun H hs=> .f ca169 rfl (CallT.mono (has_c M H k.m0 k.m1 (gMove (placesTo code 7) send lean n af j)) (Q':=fun v H'=> H.le H'∧v=.bool false) (by rintro v H' ⟨h1,h2⟩;unfold Lk.inMove at hin;rw[hin] at h2;exact⟨h1,h2⟩))) ?_
         refine .x .nt ?_
         refine .done ?_
         refine Tc.dropB (R':= [(69,.bool true)]) (L':= []) ?_ ⟨rfl,trivial⟩ (List.nil_sublist _)
         refine Tc.expand hx ?_
         refine .tt rfl (.exit rfl ?_)
         refine Tc.leaveRound hK2 (i:=0) rfl (.inl ⟨rfl,rfl⟩) (fun H' hs'=> q2 H' _ _ (hs'.less (by exact List.Sublist.refl _)) ⟨rfl,hle2,hany3⟩)
   · rintro H₂ _ ⟨rfl,hle2,hany2⟩
     have hno:k.gives₁ (placesTo code 7) send lean af (upTo k.m0 k.m1)=false:=hany2.symm
     have hany3:(rest.any fun lean=> k.gives₁ (placesTo code 7) send lean af (upTo k.m0 k.m1))=k.gives (placesTo code 7) send af:=by
       rw[←hany,List.any_cons,hno]
       rfl
     refine .inBlock ?_
     refine Tc.inScope ?_
     refine .inBlock ?_
     refine Tc.leaveRound hK1 (i:=1) rfl (.inl ⟨rfl,rfl⟩) (fun H' hs'=> q1 H' _ _ (hs'.less (by apply List.Sublist.cons;exact List.Sublist.refl _)) ⟨rfl,hle2,hany3⟩)
   · rintro j H₂ _ ⟨rfl,hle2,htot,rfl⟩
     refine Tc.leaveRound hK1 (i:=1) rfl (.inr (.inl ⟨_,rfl,rfl⟩)) (fun H' hs'=> q1' H' _ _ _ (hs'.less (by apply List.Sublist.cons;exact List.Sublist.refl _)) ⟨rfl,hle2,htot,rfl⟩)
 · rintro r H₁ _ ⟨rfl,hle1,hany⟩
   have hno:k.gives (placesTo code 7) send af=false:=hany.symm
   unfold gL
   refine .inBlock (.sr ?_)
   refine .e (.st 2 (zz:=?_))
   refine .done ?_
   refine Tc.retD (E:=en) (i:=0) hK Tryz.func157 Tryz.results157 (vs:= [_]) rfl (by refine⟨⟨2,_,_,_,_,_,_,_,rfl,rfl,rfl,rfl⟩,?_⟩;exact trivial) ?_
   exact fun H' hs=> ⟨View.le_trans hle1 hs.base,by rw[hno];rfl⟩
 · rintro r j H₁ _ ⟨rfl,hle1,htot,rfl⟩
   unfold gL
   refine Tc.retD (E:=en) (i:=0) hK Tryz.func157 Tryz.results157 (vs:= [_]) rfl (by refine⟨⟨2,_,_,_,_,_,_,_,rfl,rfl,rfl,rfl⟩,?_⟩;exact trivial) ?_
   exact fun H' hs=> ⟨View.le_trans hle1 hs.base,by rw[htot];rfl⟩
end
end Go.Proofs.YtpdaenfglbgfkaaGreatDoor
end
section
namespace Go.Proofs.YtpdaenfglbgfkaaGreatDoor
open Go.RL
set_option maxRecDepth 10000
set_option maxHeartbeats 4000000
def pad6(l:List Int):List Int:=l++List.replicate (6-l.length) 0
theorem pad6_len {l:List Int}(h:l.length≤6):(pad6 l).length=6:=by simp[pad6];omega
def tuneTo(p:Int→Bool):List Int→Option (Int×Int)→Option (Int×Int)
 | [],o=> o
 | n::l,o=> tuneTo p l (if p n then some (match o with|some (a,_)=> (a,n)|none=> (n,n)) else o)
def Lk.tune(k:Lk)(ps:List Nat)(t:List Int):Option (Int×Int):=tuneTo (fun n=> k.gives ps n (afterTo t ps.length)) (upTo k.s0 k.s1) none
def bandO(o:Option (Int×Int)):Value:=match o with|some (a,b)=> bandV a b|none=> bandV 0 0
def bandCells(o:Option (Int×Int)):List Value:=match o with|some (a,b)=> [.int .i64 a,.int .i64 b] | none=> [.int .i64 0,.int .i64 0]
section
variable(M:Md Tryz.prog)(H:View)
def tL(code eb ec:Nat)(k:Lk)(t:List Int)(o:Option (Int×Int))(b3 b4 b5 b6 b7 b8 n:Nat):Bl:=
 [(b8,true,.cells ⟨intsL (afterTo t n)⟩ 135 (0,0)),(b7,true,.cells ⟨[.bool o.isSome]⟩ 4 (0,0)),(b6,true,.cells ⟨bandCells o⟩ 23 (0,0)),(b5,true,.cells ⟨intsL t⟩ 135 (0,0)),
   (b4,true,.cells ⟨[.int .i64 code,.slice (some ⟨eb,0,none⟩) n ec]⟩ 112 (0,0)),(b3,true,.cells ⟨k.val.cells.toList⟩ 109 (0,0))]
theorem tune_c(k:Lk)(hk:k.Fine)(code eb ec:Nat)(t:List Int)(hc:code<32)(hE:Edg H (placesTo code 7) eb)(hec:(placesTo code 7).length≤ec)(h2:2≤(placesTo code 7).length)(h6:t.length=6)(hb:∀x∈t, -10000≤x∧x≤10000):
   CallT M 114 #[k.val,.agg ⟨[.int .i64 code,.slice (some ⟨eb,0,none⟩) (placesTo code 7).length ec]⟩,timesV t] H (fun v H'=> H.le H'∧v=.tuple ⟨[bandO (k.tune (placesTo code 7) t),.bool (k.tune (placesTo code 7) t).isSome]⟩):=by
 obtain⟨hp0,hp6,hpl⟩:=places_in code hc
 have hbd:=hk.bounds
 simp only[List.mem_cons,List.not_mem_nil,or_false,forall_eq_or_imp,forall_eq] at hbd
 obtain⟨k1,k2,k3,k4,k5,k6,k7,k8⟩:=hbd
 have hks:=hk.s
 have hal:(afterTo t (placesTo code 7).length).length=6:=by rw[afterTo_len,h6]
 have hab:∀x∈afterTo t (placesTo code 7).length, -100000≤x∧x≤100000:=by
   intro x hx
   unfold afterTo at hx
   obtain⟨y,hy,rfl⟩:=List.mem_map.1 hx
   have h3:=hb y.1 (by
     have:=List.mem_zipIdx_iff_getElem?.1 hy
     exact List.mem_of_getElem? this)
   have h4: -10000≤t.headD 0∧t.headD 0≤10000:=by
     cases t with
     | nil=> cases h6
     | cons a l=> exact hb a List.mem_cons_self
   split <;> omega
 have fT:ldL true 6 (intsL t) 0=some (.agg ⟨intsL t⟩):=by
   unfold ldL
   have e1:Nat.ble (0+6) (intsL t).length=true:=by rw[intsL_len,h6];rfl
   simp only[e1]
   rw[List.drop_zero,List.take_of_length_le (by rw[intsL_len,h6];exact Nat.le_refl _)]
 have fA:ldL true 6 (intsL (afterTo t (placesTo code 7).length)) 0=some (.agg ⟨intsL (afterTo t (placesTo code 7).length)⟩):=by
   unfold ldL
   have e1:Nat.ble (0+6) (intsL (afterTo t (placesTo code 7).length)).length=true:=by rw[intsL_len,hal];rfl
   simp only[e1]
   rw[List.drop_zero,List.take_of_length_le (by rw[intsL_len,hal];exact Nat.le_refl _)]
 have lA:Nat.beq (intsL (afterTo t (placesTo code 7).length)).length 6=true:=by rw[intsL_len,hal];rfl
 have lB:(intsL (afterTo t (placesTo code 7).length)).all single=true:=by
   rw[List.all_eq_true]
   intro y hy
   obtain⟨z,_,rfl⟩:=List.mem_map.1 hy
   rfl
 have lC:stL [Value.int .i64 0,.int .i64 0,.int .i64 0,.int .i64 0,.int .i64 0,.int .i64 0] 0 (intsL (afterTo t (placesTo code 7).length))=intsL (afterTo t (placesTo code 7).length):=by
   unfold stL
   rw[List.take_zero,List.nil_append,List.drop_eq_nil_of_le (by rw[intsL_len,hal];simp),List.append_nil]
 refine CallT.enter (vs:= [k.val,.agg ⟨[.int .i64 code,.slice (some ⟨eb,0,none⟩) (placesTo code 7).length ec]⟩,timesV t]) Tryz.func114 rfl Tryz.ntmps114 (Nat.le_of_ble_eq_true rfl) (SymSt.nil _) fun St c cs hK=> ?_
 refine .sr ?_
 refine .e (.bx (zz:=fun b3=> ?_))
 refine .e (.bx (zz:=fun b4=> ?_))
 refine .e (.bx (zz:=fun b5=> ?_))
 refine .e (.al (zz:=fun b6=> ?_))
 refine .e (.al (zz:=fun b7=> ?_))
 refine .done (.sr ?_)
 refine .x (.ld 2) ?_
 refine .x .fa ?_
 refine .x (.ld 3) ?_
 refine .x .ln ?_
 refine .c rfl rfl rfl rfl (fun H hs=> .f ca137 rfl (after_c M H t (placesTo code 7).length h6 hp6 (fun x hx=> by have:=hb x hx;omega))) ?_
 refine .e (.al (zz:=fun b8=> ?_))
 refine .e (Or.storeT (E:=en) 0 rfl rfl rfl rfl rfl lA rfl (by exact rfl) lB rfl lC ?_)
 refine .done (.seq (.sr ?_))
 refine .x .fa ?_
 refine .x .fa ?_
 refine .x (.ld 5) ?_
 refine .c rfl rfl rfl rfl (fun H hs=> .f ca155 rfl (bandOf_c M H k.s0 k.s1)) ?_
 refine .x .mf ?_
 refine .done (.block ?_)
 have itS:=fun H (_:(fun _:View=> True) H)=> all_it M H k.s0 k.s1 (by omega) (by omega)
 refine Tc.db (R':= [(19,.func (.func 156) #[bandV k.s0 k.s1] #[]),(3,.pointer (some ⟨b3,0,none⟩)),(4,.pointer (some ⟨b4,0,none⟩)),(6,.pointer (some ⟨b6,0,none⟩)),(7,.pointer (some ⟨b7,0,none⟩)),(8,.pointer (some ⟨b8,0,none⟩))]) (L':=tL code eb ec k t none b3 b4 b5 b6 b7 b8 (placesTo code 7).length) ?_
 refine Tc.rangeL (A:= []) (xs:=upTo k.s0 k.s1) (ts:= [20]) (fun rest H₁ L₁=> ∃o,L₁=tL code eb ec k t o b3 b4 b5 b6 b7 b8 (placesTo code 7).length∧H.le H₁∧tuneTo (fun n=> k.gives (placesTo code 7) n (afterTo t (placesTo code 7).length)) rest o=k.tune (placesTo code 7) t)
   (fun _ _ _=> False) rfl rfl rfl rfl itS (fun _ _ _ h=> h) (fun _ _ _ _=> trivial) rfl (fun _ _=> rfl) ⟨none,rfl,View.le_refl _,rfl⟩ ?_ ?_ ?_
 · rintro r n rest e l tmps asg bdy H₁ _ hn ⟨o,rfl,hle1,hto⟩ Q1 St1 cc1 cs1 hK1 q1 q1'
   have hn':=mem_upTo.1 hn
   unfold tL
   refine .r ?_
   refine .g ?_
   refine .done ?_
   refine Tc.beginRound (i:=0) rfl rfl rfl ?_
   refine .block (.seq (.seq ?_))
   cases hg:k.gives (placesTo code 7) n (afterTo t (placesTo code 7).length) with
   | false=>
     have hto2:tuneTo (fun n=> k.gives (placesTo code 7) n (afterTo t (placesTo code 7).length)) rest o=k.tune (placesTo code 7) t:=by
       rw[←hto]
       unfold tuneTo
       simp only[hg]
       cases rest <;> rfl
     refine .r ?_
     refine .x (.ld 7) ?_
     refine .x (.ld 6) ?_
     refine .m ?_
     refine .x (.ld 2) ?_
     refine .c rfl rfl rfl rfl (fun H hs=> .f ca157 rfl (CallT.is (.bool false) (by rewrite [hg];rfl) (gives_c M H k hk code eb ec n (afterTo t (placesTo code 7).length) hc ((hE.le hle1).le hs.base) hec h2 hal hab (by omega)))) ?_
     refine .x .nt ?_
     refine .done (.tt rfl (.exit rfl ?_))
     refine Tc.leaveRound hK1 (i:=0) rfl (.inl ⟨rfl,rfl⟩) (fun H' hs'=> q1 H' _ _ (hs'.less (by exact List.Sublist.refl _)) ⟨o,rfl,hle1,hto2⟩)
   | true=>
     refine .r ?_
     refine .x (.ld 7) ?_
     refine .x (.ld 6) ?_
     refine .m ?_
     refine .x (.ld 2) ?_
     refine .c rfl rfl rfl rfl (fun H hs=> .f ca157 rfl (CallT.is (.bool true) (by rewrite [hg];rfl) (gives_c M H k hk code eb ec n (afterTo t (placesTo code 7).length) hc ((hE.le hle1).le hs.base) hec h2 hal hab (by omega)))) ?_
     refine .x .nt ?_
     refine .done ?_
     cases o with
     | none=>
       have hto2:tuneTo (fun n=> k.gives (placesTo code 7) n (afterTo t (placesTo code 7).length)) rest (some (n,n))=k.tune (placesTo code 7) t:=by
         rw[←hto]
         show _=tuneTo _ rest _
         simp only[hg]
         rfl
       refine .ff rfl (.skip (.seq (.sr ?_)))
       refine .x (.ld 3) ?_
       refine .x .nt ?_
       refine .done (.tt rfl (.r ?_))
       refine .m ?_
       refine .x .fa ?_
       refine .e (.st 4 (zz:=?_))
       refine .done (.r ?_)
       refine .m ?_
       refine .x .fa ?_
       refine .e (.st 4 (zz:=?_))
       refine .e (.st 3 (zz:=?_))
       refine .done (.inBlock ?_)
       refine Tc.leaveRound hK1 (i:=0) rfl (.inl ⟨rfl,rfl⟩) (fun H' hs'=> q1 H' _ _ (hs'.less (by exact List.Sublist.refl _)) ⟨some (n,n),rfl,hle1,hto2⟩)
     | some ab=>
       obtain⟨a,b⟩:=ab
       have hto2:tuneTo (fun n=> k.gives (placesTo code 7) n (afterTo t (placesTo code 7).length)) rest (some (a,n))=k.tune (placesTo code 7) t:=by
         rw[←hto]
         show _=tuneTo _ rest _
         simp only[hg]
         rfl
       refine .ff rfl (.skip (.seq (.sr ?_)))
       refine .x (.ld 3) ?_
       refine .x .nt ?_
       refine .done (.ff rfl (.skip (.r ?_)))
       refine .m ?_
       refine .x .fa ?_
       refine .e (.st 4 (zz:=?_))
       refine .e (.st 3 (zz:=?_))
       refine .done (.inBlock ?_)
       refine Tc.leaveRound hK1 (i:=0) rfl (.inl ⟨rfl,rfl⟩) (fun H' hs'=> q1 H' _ _ (hs'.less (by exact List.Sublist.refl _)) ⟨some (a,n),rfl,hle1,hto2⟩)
 · rintro r H₁ _ ⟨o,rfl,hle1,hto⟩
   have hto2:o=k.tune (placesTo code 7) t:=hto
   unfold tL
   refine .inBlock (.seq ?_)
   cases o with
   | none=>
     refine Tc.dr [2,3] [3] mixed rfl ?_
     refine .q 0 rfl (.ld 3) ?_
     refine Ta.tkw 1 (by kernel_rfl) rfl rfl rfl (by decide) rfl rfl (OpV.take (.ld 2)) ?_
     refine Ta.each [2] (by kernel_rfl) rfl ⟨TaOp.mk rfl rfl rfl (.st 3 (zz:=⟨S2.mk (by apply List.Sublist.cons_cons;apply List.Sublist.cons_cons;apply List.Sublist.cons_cons;apply List.Sublist.cons;exact List.Sublist.refl _) (.inl (by kernel_rfl)),?_⟩)),trivial⟩
     refine Ta.each [3] (by kernel_rfl) rfl ⟨TaOp.mk rfl rfl rfl (.st 2 (zz:=⟨S2.mk (by apply List.Sublist.cons_cons;apply List.Sublist.cons_cons;apply List.Sublist.cons_cons;apply List.Sublist.cons;exact List.Sublist.refl _) (.inl (by kernel_rfl)),?_⟩)),trivial⟩
     refine Ta.done (by kernel_rfl) ?_
     refine Tc.retD (E:=en) (i:=0) hK Tryz.func114 Tryz.results114 (vs:= [_,_]) rfl (by refine⟨⟨3,_,_,_,_,_,_,_,rfl,rfl,rfl,rfl⟩,?_⟩;refine⟨⟨2,_,_,_,_,_,_,_,rfl,rfl,rfl,rfl⟩,?_⟩;exact trivial) ?_
     exact fun H' hs=> ⟨View.le_trans hle1 hs.base,by rw[←hto2];rfl⟩
   | some ab=>
     obtain⟨a,b⟩:=ab
     refine Tc.dr [2,3] [3] mixed rfl ?_
     refine .q 0 rfl (.ld 3) ?_
     refine Ta.tkw 1 (by kernel_rfl) rfl rfl rfl (by decide) rfl rfl (OpV.take (.ld 2)) ?_
     refine Ta.each [2] (by kernel_rfl) rfl ⟨TaOp.mk rfl rfl rfl (.st 3 (zz:=⟨S2.mk (by apply List.Sublist.cons_cons;apply List.Sublist.cons_cons;apply List.Sublist.cons_cons;apply List.Sublist.cons;exact List.Sublist.refl _) (.inl (by kernel_rfl)),?_⟩)),trivial⟩
     refine Ta.each [3] (by kernel_rfl) rfl ⟨TaOp.mk rfl rfl rfl (.st 2 (zz:=⟨S2.mk (by apply List.Sublist.cons_cons;apply List.Sublist.cons_cons;apply List.Sublist.cons_cons;apply List.Sublist.cons;exact List.Sublist.refl _) (.inl (by kernel_rfl)),?_⟩)),trivial⟩
     refine Ta.done (by kernel_rfl) ?_
     refine Tc.retD (E:=en) (i:=0) hK Tryz.func114 Tryz.results114 (vs:= [_,_]) rfl (by refine⟨⟨3,_,_,_,_,_,_,_,rfl,rfl,rfl,rfl⟩,?_⟩;refine⟨⟨2,_,_,_,_,_,_,_,rfl,rfl,rfl,rfl⟩,?_⟩;exact trivial) ?_
     exact fun H' hs=> ⟨View.le_trans hle1 hs.base,by rw[←hto2];rfl⟩
 · rintro r j H₁ _ h
   exact h.elim
end
end Go.Proofs.YtpdaenfglbgfkaaGreatDoor
end
section
namespace Go.Proofs.YtpdaenfglbgfkaaGreatDoor
open Go.RL
set_option maxRecDepth 10000
set_option maxHeartbeats 4000000
structure Told(l:List Int):Prop where
 len:l.length≤6
 pos:l≠ []
 max:∀x∈l, -999≤x∧x≤999
structure TimesAt(H:View)(A:Option Addr)(l:List Int):Prop where
 ex:∃ab ao f gs gt gz,A=some ⟨ab,ao,none⟩∧H ab=some (f,.cells ⟨gs⟩ gt gz)∧ao+l.length*1≤gs.length∧(gs.drop ao).take (l.length*1)=intsL l
theorem TimesAt.le {H H':View}{A:Option Addr}{l:List Int}(h:TimesAt H A l)(k:H.le H'):TimesAt H' A l:=by
 obtain⟨ab,ao,f,gs,gt,gz,h1,h2,h3,h4⟩:=h.ex
 exact⟨ab,ao,f,gs,gt,gz,h1,k _ _ h2,h3,h4⟩
theorem times_ld {gs:List Value}{ao:Nat}{l:List Int}(h:(gs.drop ao).take (l.length*1)=intsL l){j:Nat}(hj:j<l.length):ldL false 1 gs (ao+(j:Int).toNat*1)=some (.int .i64 (l[j]?.getD 0)):=by
 show gs[ao+(j:Int).toNat*1]? =_
 rw[Nat.mul_one,Int.toNat_natCast]
 have h1:((gs.drop ao).take (l.length*1))[j]? =(intsL l)[j]? :=by rw[h]
 rw[List.getElem?_take_of_lt (by omega),List.getElem?_drop] at h1
 rw[h1]
 unfold intsL
 rw[List.getElem?_map,List.getElem?_eq_getElem hj]
 rfl
section
variable(M:Md Tryz.prog)(H:View)
theorem told_c(l:List Int)(hl:Told l)(A:Option Addr)(cap:Nat)(hT:TimesAt H A l):CallT M 111 #[.slice A l.length cap] H (fun v H'=> H.le H'∧v=.tuple ⟨[timesV (pad6 l),.int .i64 0]⟩):=by
 obtain⟨ab,ao,f,gs,gt,gz,rfl,hA1,hA2,hA3⟩:=hT.ex
 obtain⟨hl6,hne,hmax⟩:=hl
 have hn0:intsL l≠ []:=by
   cases l with
   | nil=> exact(hne rfl).elim
   | cons a l=> intro e;cases e
 have hsg:(intsL l).all single=true:=by
   rw[List.all_eq_true]
   intro y hy
   obtain⟨z,_,rfl⟩:=List.mem_map.1 hy
   rfl
 have hst:stL [Value.int .i64 0,.int .i64 0,.int .i64 0,.int .i64 0,.int .i64 0,.int .i64 0] 0 (intsL l)=intsL (pad6 l):=by
   unfold stL pad6
   rw[List.take_zero,List.nil_append,Nat.zero_add,intsL_len]
   have e1:intsL (l++List.replicate (6-l.length) 0)=intsL l++intsL (List.replicate (6-l.length) 0):=by unfold intsL;rw[List.map_append]
   rw[e1]
   congr 1
   have:l.length=0∨l.length=1∨l.length=2∨l.length=3∨l.length=4∨l.length=5∨l.length=6:=by omega
   rcases this with h|h|h|h|h|h|h <;> rw[h] <;> rfl
 have hp6:=pad6_len hl6
 have fP:ldL true 6 (intsL (pad6 l)) 0=some (.agg ⟨intsL (pad6 l)⟩):=by
   unfold ldL
   have e1:Nat.ble (0+6) (intsL (pad6 l)).length=true:=by rw[intsL_len,hp6];rfl
   simp only[e1]
   rw[List.drop_zero,List.take_of_length_le (by rw[intsL_len,hp6];exact Nat.le_refl _)]
 have lA:Nat.beq (intsL (pad6 l)).length 6=true:=by rw[intsL_len,hp6];rfl
 have lB:(intsL (pad6 l)).all single=true:=by
   rw[List.all_eq_true]
   intro y hy
   obtain⟨z,_,rfl⟩:=List.mem_map.1 hy
   rfl
 have lC:stL [Value.int .i64 0,.int .i64 0,.int .i64 0,.int .i64 0,.int .i64 0,.int .i64 0] 0 (intsL (pad6 l))=intsL (pad6 l):=by
   unfold stL
   rw[List.take_zero,List.nil_append,List.drop_eq_nil_of_le (by rw[intsL_len,hp6];simp),List.append_nil]
 refine CallT.enter (vs:= [.slice (some ⟨ab,ao,none⟩) l.length cap]) Tryz.func111 rfl Tryz.ntmps111 (Nat.le_of_ble_eq_true rfl) (SymSt.nil _) fun St c cs hK=> ?_
 refine .sr ?_
 refine .e (.al (zz:=fun b2=> ?_))
 refine .g ?_
 refine .done (.sr ?_)
 refine .e (.al (zz:=fun b4=> ?_))
 refine .done (.seq (.sr ?_))
 refine .m ?_
 refine .x .ln ?_
 refine .m ?_
 refine .done (.block ?_)
 refine Tc.db (Tc.loopInv (σ:= { j:Nat//j≤l.length }) (fun j=> ([(0,.slice (some ⟨ab,ao,none⟩) l.length cap),(2,.pointer (some ⟨b2,0,none⟩)),(4,.pointer (some ⟨b4,0,none⟩)),(7,.slice (some ⟨ab,ao,none⟩) l.length cap),(8,.int .i64 (l.length:Nat)),(9,.int .i64 (j.1:Nat))],
   [(b4,true,.cells ⟨[.int .i64 0,.int .i64 0,.int .i64 0,.int .i64 0,.int .i64 0,.int .i64 0]⟩ 135 (0,0)),(b2,true,.cells ⟨[.int .i64 0,.int .i64 0,.int .i64 0,.int .i64 0,.int .i64 0,.int .i64 0]⟩ 135 (0,0))])) (fun j=> l.length-j.1) ?_ ⟨0,by omega⟩)
 rintro⟨j,hj⟩ ih
 show Tc M St _ _ _ _ [(0,.slice (some ⟨ab,ao,none⟩) l.length cap),(2,.pointer (some ⟨b2,0,none⟩)),(4,.pointer (some ⟨b4,0,none⟩)),(7,.slice (some ⟨ab,ao,none⟩) l.length cap),(8,.int .i64 (l.length:Nat)),(9,.int .i64 (j:Nat))]
   [(b4,true,.cells ⟨[.int .i64 0,.int .i64 0,.int .i64 0,.int .i64 0,.int .i64 0,.int .i64 0]⟩ 135 (0,0)),(b2,true,.cells ⟨[.int .i64 0,.int .i64 0,.int .i64 0,.int .i64 0,.int .i64 0,.int .i64 0]⟩ 135 (0,0))] _ _
 by_cases c1:j=l.length
 · refine .sr ?_
   refine .i ?_ (z:=lss_f (by omega))
   refine .done (.seq (.ff rfl (.exit rfl (.sr ?_))))
   refine .x (OpV.sliceA (E:=en) (off':=0) rfl rfl rfl rfl rfl rfl rfl rfl (by decide) (by decide) (by decide) (by rw[if_neg (by decide)];rfl)) ?_
   refine .m ?_
   refine .e (Or.copy (E:=en) (m:=l.length) 0 rfl rfl rfl rfl rfl rfl rfl rfl rfl rfl rfl (fun H hs=> hA3▸SrcAt.of (hs.base _ _ hA1) hA2) hsg hl6 (by decide) hn0 rfl (by decide) hst ?_)
   refine .done (.sr ?_)
   refine .x (.ld 0) ?_
   refine .e (Or.storeT (E:=en) 1 rfl rfl rfl rfl rfl lA rfl (by exact rfl) lB rfl lC ?_)
   refine .g ?_
   refine .done ?_
   refine Tc.retN (E:=en) hK Tryz.func111 Tryz.results111 (vs:= [.agg ⟨intsL (pad6 l)⟩,_]) (by refine⟨⟨1,_,_,_,_,_,_,_,rfl,rfl,rfl,fP⟩,⟨rfl,trivial⟩⟩) ?_
   exact fun H' hs=> ⟨hs.base,rfl⟩
 · have c2:j<l.length:=by omega
   have f1:=times_ld hA3 c2
   have hm:=hmax (l[j]?.getD 0) (by rw[List.getElem?_eq_getElem c2];exact List.getElem_mem c2)
   refine .sr ?_
   refine .i ?_ (z:=lss_t (by omega))
   refine .done (.seq (.tt rfl (.skip (.seq (.block (.sr ?_))))))
   refine .x .ia ?_
   refine .x .l0 ?_
   refine .g ?_
   refine .done (.sr ?_)
   refine .m ?_
   refine .i ?_ (z:=lss_f (by omega))
   refine .m ?_
   refine .m ?_
   refine .i ?_ (z:=gtr_f (by omega))
   refine .x .pk ?_
   refine .done (.ff rfl (.skip (.inBlock (.r ?_))))
   refine .i ?_ (z:=add_in (by omega) (by omega))
   refine .m ?_
   refine .done ?_
   exact Tc.db (ih ⟨j+1,by omega⟩ (by simp only;omega))
theorem Index_2(b cap:Nat)(hb:H b=some (true,.cells ⟨[.int .i64 2,.int .i64 4,.int .i64 6]⟩ 3 (0,0))):CallT M 154 #[.slice (some ⟨b,0,none⟩) 3 cap,.int .i64 2] H (fun v H'=> H.le H'∧v=.int .i64 0):=by
 refine CallT.enter (vs:= [.slice (some ⟨b,0,none⟩) 3 cap,.int .i64 2]) Tryz.func154 rfl Tryz.ntmps154 (Nat.le_of_ble_eq_true rfl) (SymSt.nil _) fun St c cs hK=> ?_
 refine .sr ?_
 refine .g ?_
 refine .done (.seq (.sr ?_))
 refine .m ?_
 refine .x .ln ?_
 refine .m ?_
 refine .done (.block (.loop (.sr ?_)))
 refine .i ?_ (z:=lss_t (by omega))
 refine .done (.seq (.tt rfl (.skip (.seq (.block (.sr ?_))))))
 refine .m ?_
 refine .g ?_
 refine .done (.sr ?_)
 refine .m ?_
 refine .m ?_
 refine .m ?_
 refine .x .ia ?_
 refine .x .l0 ?_
 refine .i ?_ (z:=eql_t (by omega))
 refine .done (.tt rfl (.sr ?_))
 refine .m ?_
 refine .g ?_
 refine .done ?_
 refine .rt hK Tryz.func154 Tryz.results154 [_] ?_
 exact fun H' hs=> ⟨hs.base,rfl⟩
theorem Contains_2(b cap:Nat)(hb:H b=some (true,.cells ⟨[.int .i64 2,.int .i64 4,.int .i64 6]⟩ 3 (0,0))):CallT M 110 #[.slice (some ⟨b,0,none⟩) 3 cap,.int .i64 2] H (fun v H'=> H.le H'∧v=.bool true):=by
 refine CallT.enter (vs:= [.slice (some ⟨b,0,none⟩) 3 cap,.int .i64 2]) Tryz.func110 rfl Tryz.ntmps110 (Nat.le_of_ble_eq_true rfl) (SymSt.nil _) fun St c cs hK=> ?_
 refine .sr ?_
 refine .g ?_
 refine .done (.sr ?_)
 refine .m ?_
 refine .m ?_
 refine .c rfl rfl rfl rfl (fun H hs=> .f ca154 rfl (Index_2 M H b cap (hs.base _ _ hb))) ?_
 refine .i ?_ (z:=geq_t (by omega))
 refine .g ?_
 refine .done ?_
 refine .rt hK Tryz.func110 Tryz.results110 [_] ?_
 exact fun H' hs=> ⟨hs.base,rfl⟩
end
end Go.Proofs.YtpdaenfglbgfkaaGreatDoor
end
section
namespace Go.Proofs.YtpdaenfglbgfkaaGreatDoor
open Go.RL
set_option maxRecDepth 10000
set_option maxHeartbeats 4000000
theorem pad6_in {l:List Int}(h:Told l):∀x∈pad6 l, -10000≤x∧x≤10000:=by
 intro x hx
 unfold pad6 at hx
 rcases List.mem_append.1 hx with h1|h1
 · have:=h.max x h1;omega
 · have:=(List.mem_replicate.1 h1).2;omega
theorem pad6_ld {l:List Int}(h:l.length≤6):ldL true 6 (intsL (pad6 l)) 0=some (.agg ⟨intsL (pad6 l)⟩):=by
 have hp6:=pad6_len h
 unfold ldL
 have e1:Nat.ble (0+6) (intsL (pad6 l)).length=true:=by rw[intsL_len,hp6];rfl
 simp only[e1]
 rw[List.drop_zero,List.take_of_length_le (by rw[intsL_len,hp6];exact Nat.le_refl _)]
def Lk.sentOf(k:Lk)(l:List Int)(c:Nat):Bool:=decide ((placesTo c 7).length=l.length)&&(k.tune (placesTo c 7) (pad6 l)).isSome
def TuneQ(o:Option (Int×Int))(H:View)(v:Value)(H':View):Prop:=H.le H'∧v=(match o with|some (a,b)=> .tuple ⟨[bandV a b,.int .i64 0]⟩|none=> .tuple ⟨[bandV 0 0,.int .i64 10]⟩)
section
variable(M:Md Tryz.prog)(H:View)
theorem Contains_two(m:Nat)(h:m=2)(b cap:Nat)(hb:H b=some (true,.cells ⟨[.int .i64 2,.int .i64 4,.int .i64 6]⟩ 3 (0,0))):CallT M 110 #[.slice (some ⟨b,0,none⟩) 3 cap,.int .i64 (m:Nat)] H (fun v H'=> H.le H'∧v=.bool true):=by
 subst h
 exact Contains_2 M H b cap hb
theorem sent_asks(k:Lk)(hk:k.Fine)(l:List Int)(hl:Told l)(h2:2≤l.length)(A:Option Addr)(cap b3 b2 b7:Nat)(hb3:H b3=some (true,.cells ⟨[.slice A l.length cap]⟩ 28 (0,0)))(hb2:H b2=some (true,.cells ⟨k.val.cells.toList⟩ 27 (0,0)))
   (hb7:H b7=some (true,.cells ⟨intsL (pad6 l)⟩ 135 (0,0))):Asks M H (.func (.func 112) #[] #[.pointer (some ⟨b3,0,none⟩),.pointer (some ⟨b2,0,none⟩),.pointer (some ⟨b7,0,none⟩)]) 32 (k.sentOf l):=fun i hi H' hle=> by
 refine FnT.of (first:= []) (captured:= [_,_,_]) ca112 rfl ?_
 have h3:=hle _ _ hb3
 have h2':=hle _ _ hb2
 have h7:=hle _ _ hb7
 have fP:=pad6_ld hl.len
 refine CallT.enter (vs:= [.int .i64 (i:Nat),.pointer (some ⟨b3,0,none⟩),.pointer (some ⟨b2,0,none⟩),.pointer (some ⟨b7,0,none⟩)]) Tryz.func112 rfl Tryz.ntmps112 (Nat.le_of_ble_eq_true rfl) (SymSt.nil _) fun St c cs hK=> ?_
 refine .sr ?_
 refine .g ?_
 refine .done (.sr ?_)
 refine .m ?_
 refine .e (Or.callNew (letN i) (letB i) (fun x=> (placesTo i 7).length≤x.2.1) rfl rfl rfl rfl rfl (by decide) (letB_nodup i) (fun H hs=> .f ca113 rfl (letterOf_m M H i hi)) (fun x hx=> ?_))
 refine .e (.al (zz:=fun b6=> ?_))
 refine .e (.st 0 (zz:=?_))
 refine .done (.seq (.seq ?_))
 by_cases hlen:(placesTo i 7).length=l.length
 · refine .r ?_
   refine .x .fa ?_
   refine .x (.ld 0) ?_
   refine .x .ln ?_
   refine .x .l0 ?_
   refine .x .ln ?_
   refine .i ?_ (z:=neq_f (by omega))
   refine .done (.ff rfl (.skip (.seq ?_)))
   cases ht:k.tune (placesTo i 7) (pad6 l) with
   | none=>
     have hso:k.sentOf l i=false:=by unfold Lk.sentOf;rw[ht];simp
     refine .r ?_
     refine .x .l0 ?_
     refine .x .bu ?_
     refine .x (.ld 0) ?_
     refine .x .l0 ?_
     refine .c rfl rfl rfl rfl (fun H hs=> .f ca114 rfl (CallT.is (.tuple ⟨[bandV 0 0,.bool false]⟩) (by rewrite [ht];rfl) (tune_c M H k hk i x.1 x.2.1 (pad6 l) hi (edg_of fun y hy=> hs.at_ y (by simp[hy])) hx (by omega) (pad6_len hl.len) (pad6_in hl)))) ?_
     refine .m ?_
     refine .x .et ?_
     refine .x .et ?_
     refine .e (.al (zz:=fun b8=> ?_))
     refine .e (.st 0 (zz:=?_))
     refine .g ?_
     refine .done (.sr ?_)
     refine .m ?_
     refine .g ?_
     refine .done ?_
     refine .rt hK Tryz.func112 Tryz.results112 [_] ?_
     exact fun H2 hs=> ⟨hs.base,by rw[hso];rfl⟩
   | some ab=>
     obtain⟨a,b⟩:=ab
     have hso:k.sentOf l i=true:=by unfold Lk.sentOf;rw[ht,decide_eq_true hlen];rfl
     refine .r ?_
     refine .x .l0 ?_
     refine .x .bu ?_
     refine .x (.ld 0) ?_
     refine .x .l0 ?_
     refine .c rfl rfl rfl rfl (fun H hs=> .f ca114 rfl (CallT.is (.tuple ⟨[bandV a b,.bool true]⟩) (by rewrite [ht];rfl) (tune_c M H k hk i x.1 x.2.1 (pad6 l) hi (edg_of fun y hy=> hs.at_ y (by simp[hy])) hx (by omega) (pad6_len hl.len) (pad6_in hl)))) ?_
     refine .m ?_
     refine .x .et ?_
     refine .x .et ?_
     refine .e (.al (zz:=fun b8=> ?_))
     refine .e (.st 0 (zz:=?_))
     refine .g ?_
     refine .done (.sr ?_)
     refine .m ?_
     refine .g ?_
     refine .done ?_
     refine .rt hK Tryz.func112 Tryz.results112 [_] ?_
     exact fun H2 hs=> ⟨hs.base,by rw[hso];rfl⟩
 · have hso:k.sentOf l i=false:=by unfold Lk.sentOf;rw[decide_eq_false hlen];rfl
   refine .r ?_
   refine .x .fa ?_
   refine .x (.ld 0) ?_
   refine .x .ln ?_
   refine .x .l0 ?_
   refine .x .ln ?_
   refine .i ?_ (z:=neq_t (by omega))
   refine .done (.tt rfl (.sr ?_))
   refine .g ?_
   refine .done ?_
   refine .rt hK Tryz.func112 Tryz.results112 [_] ?_
   exact fun H2 hs=> ⟨hs.base,by rw[hso];rfl⟩
theorem Sent_two(k:Lk)(hG:Glob H)(hk:k.ok=true)(l:List Int)(hl:Told l)(h2:l.length=2)(A:Option Addr)(cap:Nat)(hT:TimesAt H A l):CallT M 46 #[k.val,.slice A l.length cap] H (ToldQ (keepTo (k.sentOf l) 32) H):=by
 refine CallT.enter (vs:= [k.val,.slice A l.length cap]) Tryz.func46 rfl Tryz.ntmps46 (Nat.le_of_ble_eq_true rfl) (SymSt.nil _) fun St c cs hK=> ?_
 have hp6:=pad6_len hl.len
 have lA:Nat.beq (intsL (pad6 l)).length 6=true:=by rw[intsL_len,hp6];rfl
 have lB:(intsL (pad6 l)).all single=true:=by
   rw[List.all_eq_true]
   intro y hy
   obtain⟨z,_,rfl⟩:=List.mem_map.1 hy
   rfl
 have lC:stL [Value.int .i64 0,.int .i64 0,.int .i64 0,.int .i64 0,.int .i64 0,.int .i64 0] 0 (intsL (pad6 l))=intsL (pad6 l):=by
   unfold stL
   rw[List.take_zero,List.nil_append,List.drop_eq_nil_of_le (by rw[intsL_len,hp6];simp),List.append_nil]
 refine .sr ?_
 refine .e (.bx (zz:=fun b2=> ?_))
 refine .e (.bx (zz:=fun b3=> ?_))
 refine .g ?_
 refine .g ?_
 refine .done (.seq (.sr ?_))
 refine .x (.ld 1) ?_
 refine .c rfl rfl rfl rfl (fun H hs=> .f ca86 rfl (checkLink_good M H k (glob_le hG hs.base) hk)) ?_
 refine .g ?_
 refine .done (.sr ?_)
 refine .m ?_
 refine .i ?_ (z:=neq_f (by omega))
 refine .done (.ff rfl (.skip (.seq (.sr ?_))))
 refine .e (.bs (zz:=fun b4=> ?_))
 refine .x (.ld 1) ?_
 refine .x .ln ?_
 refine .c rfl rfl rfl rfl (fun H hs=> .f ca110 rfl (Contains_two M H l.length h2 b4 3 (hs.get (i:=0) rfl))) ?_
 refine .x .nt ?_
 refine .done (.ff rfl (.skip (.sr ?_)))
 refine .x (.ld 1) ?_
 refine .c rfl rfl rfl rfl (fun H hs=> .f ca111 rfl (told_c M H l hl A cap (hT.le hs.base))) ?_
 refine .m ?_
 refine .x .et ?_
 refine .x .et ?_
 refine .e (.al (zz:=fun b7=> ?_))
 refine .e (Or.storeT (E:=en) 0 rfl rfl rfl rfl rfl lA rfl (by exact rfl) lB rfl lC ?_)
 refine .g ?_
 refine .done (.seq (.sr ?_))
 refine .m ?_
 refine .i ?_ (z:=neq_f (by omega))
 refine .done (.ff rfl (.skip (.sr ?_)))
 refine .x .mf ?_
 refine .e (Or.callNew Gl.val Gl.bl (fun g:Gl 3 1=> g.l=keepTo (k.sentOf l) 32) rfl rfl rfl rfl rfl (by decide) gl_nodup (fun H hs=> .f ca97 rfl (keep_n M H 32 _ (k.sentOf l) (by decide) (sent_asks M H k (Lk.fine hk) l hl (by omega) A cap b3 b2 b7 (hs.get (i:=2) rfl) (hs.get (i:=3) rfl) (hs.get (i:=0) rfl)))) (fun g hg=> ?_))
 refine .g ?_
 refine .g ?_
 refine .done ?_
 refine .rt hK Tryz.func46 Tryz.results46 [_,_] ?_
 exact fun H' hs=> ⟨hs.base,g,rfl,hg,fun y hy=> ⟨hs.at_ y (by simp[hy]),hs.out y (by simp[hy])⟩⟩
theorem Tune_c(k:Lk)(code:Nat)(hG:Glob H)(hk:k.ok=true)(hc:code<32)(l:List Int)(hl:Told l)(h2:2≤l.length)(hlen:l.length=(placesTo code 7).length)(A:Option Addr)(cap:Nat)(hT:TimesAt H A l):
   CallT M 48 #[k.val,.int .i64 code,.slice A l.length cap] H (TuneQ (k.tune (placesTo code 7) (pad6 l)) H):=by
 refine CallT.enter (vs:= [k.val,.int .i64 code,.slice A l.length cap]) Tryz.func48 rfl Tryz.ntmps48 (Nat.le_of_ble_eq_true rfl) (SymSt.nil _) fun St c cs hK=> ?_
 have hp6:=pad6_len hl.len
 have fP:=pad6_ld hl.len
 have lA:Nat.beq (intsL (pad6 l)).length 6=true:=by rw[intsL_len,hp6];rfl
 have lB:(intsL (pad6 l)).all single=true:=by
   rw[List.all_eq_true]
   intro y hy
   obtain⟨z,_,rfl⟩:=List.mem_map.1 hy
   rfl
 have lC:stL [Value.int .i64 0,.int .i64 0,.int .i64 0,.int .i64 0,.int .i64 0,.int .i64 0] 0 (intsL (pad6 l))=intsL (pad6 l):=by
   unfold stL
   rw[List.take_zero,List.nil_append,List.drop_eq_nil_of_le (by rw[intsL_len,hp6];simp),List.append_nil]
 refine .sr ?_
 refine .e (.bx (zz:=fun b3=> ?_))
 refine .e (.al (zz:=fun b6=> ?_))
 refine .g ?_
 refine .done (.sr ?_)
 refine .x (.ld 1) ?_
 refine .m ?_
 refine .e (Or.callNew (fun x=> .tuple ⟨[k.val,letN code x,.int .i64 0]⟩) (letB code) (fun x=> (placesTo code 7).length≤x.2.1) rfl rfl rfl rfl rfl (by decide) (letB_nodup code) (fun H hs=> .f ca89 rfl (open_m M H k code (glob_le hG hs.base) hk hc)) (fun x hx=> ?_))
 refine .m ?_
 refine .x .et ?_
 refine .x .et ?_
 refine .x .et ?_
 refine .e (.al (zz:=fun b8=> ?_))
 refine .e (.al (zz:=fun b9=> ?_))
 refine .e (.st 1 (zz:=?_))
 refine .e (.st 0 (zz:=?_))
 refine .g ?_
 refine .done (.seq (.sr ?_))
 refine .m ?_
 refine .i ?_ (z:=neq_f (by omega))
 refine .done (.ff rfl (.skip (.seq (.sr ?_))))
 refine .m ?_
 refine .x .ln ?_
 refine .x .fa ?_
 refine .x (.ld 0) ?_
 refine .x .ln ?_
 refine .i ?_ (z:=neq_f (by omega))
 refine .done (.ff rfl (.skip (.sr ?_)))
 refine .m ?_
 refine .c rfl rfl rfl rfl (fun H hs=> .f ca111 rfl (told_c M H l hl A cap (hT.le hs.base))) ?_
 refine .m ?_
 refine .x .et ?_
 refine .x .et ?_
 refine .e (.al (zz:=fun b11=> ?_))
 refine .e (Or.storeT (E:=en) 0 rfl rfl rfl rfl rfl lA rfl (by exact rfl) lB rfl lC ?_)
 refine .g ?_
 refine .done (.seq (.sr ?_))
 refine .m ?_
 refine .i ?_ (z:=neq_f (by omega))
 refine .done (.ff rfl (.skip (.seq ?_)))
 cases ht:k.tune (placesTo code 7) (pad6 l) with
 | none=>
   refine .r ?_
   refine .x (.ld 2) ?_
   refine .x (.ld 1) ?_
   refine .x (.ld 0) ?_
   refine .c rfl rfl rfl rfl (fun H hs=> .f ca114 rfl (CallT.is (.tuple ⟨[bandV 0 0,.bool false]⟩) (by rewrite [ht];rfl) (tune_c M H k (Lk.fine hk) code x.1 x.2.1 (pad6 l) hc (edg_of fun y hy=> hs.at_ y (by simp[hy])) hx (by omega) (pad6_len hl.len) (pad6_in hl)))) ?_
   refine .m ?_
   refine .x .et ?_
   refine .x .et ?_
   refine .e (.al (zz:=fun b12=> ?_))
   refine .e (.st 0 (zz:=?_))
   refine .g ?_
   refine .done (.seq (.sr ?_))
   refine .m ?_
   refine .x .nt ?_
   refine .done (.tt rfl (.sr ?_))
   refine .x .bu ?_
   refine .e (.st 4 (zz:=?_))
   refine .g ?_
   refine .done ?_
   refine Tc.retN (E:=en) hK Tryz.func48 Tryz.results48 (vs:= [_,_]) (by refine⟨⟨4,_,_,_,_,_,_,_,rfl,rfl,rfl,rfl⟩,?_⟩;refine⟨rfl,?_⟩;exact trivial) ?_
   exact fun H2 hs=> ⟨hs.base,by rw[ht];rfl⟩
 | some ab=>
   obtain⟨a,b⟩:=ab
   refine .r ?_
   refine .x (.ld 2) ?_
   refine .x (.ld 1) ?_
   refine .x (.ld 0) ?_
   refine .c rfl rfl rfl rfl (fun H hs=> .f ca114 rfl (CallT.is (.tuple ⟨[bandV a b,.bool true]⟩) (by rewrite [ht];rfl) (tune_c M H k (Lk.fine hk) code x.1 x.2.1 (pad6 l) hc (edg_of fun y hy=> hs.at_ y (by simp[hy])) hx (by omega) (pad6_len hl.len) (pad6_in hl)))) ?_
   refine .m ?_
   refine .x .et ?_
   refine .x .et ?_
   refine .e (.al (zz:=fun b12=> ?_))
   refine .e (.st 0 (zz:=?_))
   refine .g ?_
   refine .done (.seq (.sr ?_))
   refine .m ?_
   refine .x .nt ?_
   refine .done (.ff rfl (.skip (.sr ?_)))
   refine .x (.ld 0) ?_
   refine .e (.st 4 (zz:=?_))
   refine .g ?_
   refine .done ?_
   refine Tc.retN (E:=en) hK Tryz.func48 Tryz.results48 (vs:= [_,_]) (by refine⟨⟨4,_,_,_,_,_,_,_,rfl,rfl,rfl,rfl⟩,?_⟩;refine⟨rfl,?_⟩;exact trivial) ?_
   exact fun H2 hs=> ⟨hs.base,by rw[ht];rfl⟩
end
end Go.Proofs.YtpdaenfglbgfkaaGreatDoor
end
section
namespace Go.Proofs.YtpdaenfglbgfkaaGreatDoor
open Go.RL
set_option maxRecDepth 100000
def exL:Lk:=⟨20,20,19,21,0,0, -3,3⟩
def exK:Lk:=⟨20,20,19,21,0,1, -3,3⟩
def exM:Lk:=⟨19,21,19,21,0,0, -3,3⟩
def exC:Ch:=⟨20,20,20,20,19,21,3,fun _=> 0,fun _=> 0,fun _=> -2,fun _=> 2,0,fun _=> 0⟩
theorem exL_ok:exL.ok=true:=by decide +kernel
theorem exK_ok:exK.ok=true:=by decide +kernel
theorem exM_ok:exM.ok=true:=by decide +kernel
theorem ex_edges:placesTo 16 7= [0,5]:=by decide +kernel
theorem ex_edges0:placesTo 0 7= [0,6]:=by decide +kernel
def Lk.views(k:Lk)(c:Nat):List Nat:=((k.stgs c).flatMap fun s=> s.all).map fun x=> x.1
theorem Lk.sees_views {k:Lk}(hk:1≤k.r0){c v:Nat}:k.sees c v=true↔v∈k.views c:=by
 have hr:∀s∈k.stgs c,0<s.read:=fun s hs=> by
   obtain⟨a,r,n,f,h1,h2,h3,h4,rfl⟩:=Lk.mem_stgs.1 hs
   show 0<r
   omega
 unfold Lk.sees Lk.views
 rw[List.any_eq_true,List.mem_map]
 constructor
 · rintro⟨s,hs,hv⟩
   obtain⟨x,hx,e⟩:=(Stg.reach_all (hr s hs)).1 hv
   exact⟨x,List.mem_flatMap.2 ⟨s,hs,hx⟩,e⟩
 · rintro⟨x,hx,e⟩
   obtain⟨s,hs,hx⟩:=List.mem_flatMap.1 hx
   exact⟨s,hs,(Stg.reach_all (hr s hs)).2 ⟨x,hx,e⟩⟩
theorem ex_views:((exK.views 0).any (fun v=> v==64)&&(exK.views 0).any (fun v=> decide (v<128)&&(readN v).isNone)&&(exK.views 0).all (fun v=> v==64||(readN v).isNone))=true:=by decide +kernel
theorem ex_v1:exK.sees 0 64=true:=by
 have h:=ex_views
 simp only[Bool.and_eq_true,List.any_eq_true] at h
 obtain⟨⟨⟨v,hv,e⟩,_⟩,_⟩:=h
 rw[beq_iff_eq] at e
 subst e
 exact(Lk.sees_views (by decide)).2 hv
theorem ex_v2:∃v,v<128∧exK.sees 0 v=true∧(readN v).isNone=true:=by
 have h:=ex_views
 simp only[Bool.and_eq_true,List.any_eq_true,decide_eq_true_eq] at h
 obtain⟨⟨_,v,hv,e1,e2⟩,_⟩:=h
 exact⟨v,e1,(Lk.sees_views (by decide)).2 hv,e2⟩
theorem ex_v3 {v:Nat}(hv:exK.sees 0 v=true):v=64∨(readN v).isNone=true:=by
 have h:=ex_views
 simp only[Bool.and_eq_true,List.all_eq_true,Bool.or_eq_true,beq_iff_eq] at h
 exact h.2 v ((Lk.sees_views (by decide)).1 hv)
theorem ex_right:exK.claim 0=0:=by
 have hr:rightN 0=64:=by decide +kernel
 obtain⟨w,h1,h2,h3⟩:=ex_v2
 have hne:¬exK.seen 0=1:=by
   intro e
   unfold Lk.seen at e
   obtain⟨a,ha⟩:=List.length_eq_one_iff.1 e
   have m1:64∈(List.range 128).filter (exK.sees 0):=List.mem_filter.2 ⟨List.mem_range.2 (by decide),ex_v1⟩
   have m2:w∈(List.range 128).filter (exK.sees 0):=List.mem_filter.2 ⟨List.mem_range.2 h1,h2⟩
   rw[ha,List.mem_singleton] at m1 m2
   rw[m2,←m1] at h3
   exact absurd h3 (by decide)
 unfold Lk.claim
 rw[hr,ex_v1,if_pos rfl,if_neg hne]
theorem ex_reads:(List.range 32).filter (exK.canRead 0)= [0]:=by
 have h:∀n,n<32→exK.canRead 0 n=decide (n=0):=by
   intro n hn
   unfold Lk.canRead
   by_cases e:n=0
   · subst e
     exact ex_v1
   · rw[decide_eq_false e]
     cases hs:exK.sees 0 (64+2*n) with
     | false=> rfl
     | true=>
       rcases ex_v3 hs with h1|h1
       · omega
       · rw[(readN_iff (64+2*n) (by omega) n hn).2 rfl] at h1
         cases h1
 rw[List.filter_congr fun n hn=> h n (List.mem_range.1 hn)]
 decide
theorem ex_refused:exK.refused 0=0:=by
 obtain⟨w,h1,h2,h3⟩:=ex_v2
 have hb:exK.bad 0=true:=by
   unfold Lk.bad
   rw[List.any_eq_true]
   exact⟨w,List.mem_range.2 h1,by rw[h2,h3];rfl⟩
 have hk:(keepTo (exK.canRead 0) 32).length=1:=by
   unfold keepTo
   rw[ex_reads]
   rfl
 unfold Lk.refused
 rw[hb,hk]
 rfl
theorem ex_wrong:exK.wrong 0=some (20,19,1,[-3,3]):=by decide +kernel
theorem ex_sure:((List.range 32).filter exK.sureOf).length=16∧((List.range 32).filter exK.sureOf)[0]? =some 16:=by decide +kernel
theorem ex_tune:exM.tune (placesTo 0 7) (pad6 [0,243])=some (20,20):=by decide +kernel
theorem ex_sent:(List.range 32).filter (exL.sentOf [0,243])= [0]:=by decide +kernel
theorem ex_margin:exL.margin=3:=by decide +kernel
theorem ex_paces:(List.range 41).filter exL.good= [19,20,21]:=by decide +kernel
theorem ex_weak:exC.first=some 0∧exC.bad 0=some 0:=by decide +kernel
theorem ex_spots:exC.spots=some [1]:=by decide +kernel
end Go.Proofs.YtpdaenfglbgfkaaGreatDoor
end
section
namespace Go.Proofs.YtpdaenfglbgfkaaGreatDoor
open Go.RL
set_option maxRecDepth 10000
set_option maxHeartbeats 4000000
def lineC:List Value:= [.int .i64 0,.int .i64 0,.int .i64 (-2),.int .i64 2,.int .i64 0,.int .i64 0,.int .i64 (-2),.int .i64 2,.int .i64 0,.int .i64 0,.int .i64 (-2),.int .i64 2]
theorem exC_at {H:View}{b:Nat}(h:H b=some (true,.cells ⟨lineC⟩ 25 (0,0))):ChAt H exC b 0 3 none:=by
 refine⟨⟨true,lineC,25,(0,0),h,fun i hi=> ?_⟩,Nat.le_refl _,fun hm=> absurd hm (Nat.lt_irrefl 0)⟩
 have hi':i<3:=hi
 rcases(by omega:i=0∨i=1∨i=2) with rfl|rfl|rfl <;> rfl
theorem exC_good:exC.Good:=by
 have z:(-1000000:Int)≤0∧(0:Int)≤1000000:=by decide
 have a:(-1000000:Int)≤ -2∧(-2:Int)≤1000000:=by decide
 have b:(-1000000:Int)≤2∧(2:Int)≤1000000:=by decide
 have l:(⟨0,0,0,0,0,0, -2,2⟩:Lk).lineOk=true:=by decide +kernel
 exact⟨⟨by decide,by decide,fun _ _=> z,fun _ _=> z,fun _ _=> a,fun _ _=> b,fun i hi=> absurd hi (Nat.not_lt_zero i),fun i hi=> absurd hi (Nat.not_lt_zero _)⟩,by decide,by decide,by decide,fun _ _=> l⟩
section
variable(M:Md Tryz.prog)(H:View)
theorem Example_c:CallT M 101 #[] H (fun v H'=> H.le H'∧v=exL.val):=by
 refine CallT.enter (vs:= []) Tryz.func101 rfl Tryz.ntmps101 (Nat.le_of_ble_eq_true rfl) (SymSt.nil _) fun St c cs hK=> ?_
 refine .sr ?_
 refine .e (.al (zz:=fun b0=> ?_))
 refine .done (.sr ?_)
 refine .c rfl rfl rfl rfl (fun H hs=> .f ca40 rfl (to_c M H 20 20)) ?_
 refine .c rfl rfl rfl rfl (fun H hs=> .f ca40 rfl (to_c M H 19 21)) ?_
 refine .c rfl rfl rfl rfl (fun H hs=> .f ca40 rfl (to_c M H (-3) 3)) ?_
 refine .x .bu ?_
 refine .x .bu ?_
 refine .e (.st 0 (zz:=?_))
 refine .done ?_
 refine Tc.retN (E:=en) hK Tryz.func101 Tryz.results101 (vs:= [_]) (by refine⟨⟨0,_,_,_,_,_,_,_,rfl,rfl,rfl,rfl⟩,?_⟩;exact trivial) ?_
 exact fun H' hs=> ⟨hs.base,rfl⟩
theorem Leaning_c:CallT M 102 #[] H (fun v H'=> H.le H'∧v=exK.val):=by
 refine CallT.enter (vs:= []) Tryz.func102 rfl Tryz.ntmps102 (Nat.le_of_ble_eq_true rfl) (SymSt.nil _) fun St c cs hK=> ?_
 refine .sr ?_
 refine .e (.al (zz:=fun b0=> ?_))
 refine .done (.sr ?_)
 refine .c rfl rfl rfl rfl (fun H hs=> .f ca101 rfl (Example_c M H)) ?_
 refine .e (.al (zz:=fun b1=> ?_))
 refine .e (.st 0 (zz:=?_))
 refine .done (.sr ?_)
 refine .c rfl rfl rfl rfl (fun H hs=> .f ca40 rfl (to_c M H 0 1)) ?_
 refine .x .fa ?_
 refine .x .fa ?_
 refine .e (.st 0 (zz:=?_))
 refine .done (.sr ?_)
 refine .x (.ld 0) ?_
 refine .e (.st 1 (zz:=?_))
 refine .done ?_
 refine Tc.retN (E:=en) hK Tryz.func102 Tryz.results102 (vs:= [_]) (by refine⟨⟨1,_,_,_,_,_,_,_,rfl,rfl,rfl,rfl⟩,?_⟩;exact trivial) ?_
 exact fun H' hs=> ⟨hs.base,rfl⟩
theorem Chained_c:CallT M 103 #[] H (fun v H'=> H.le H'∧∃b:Nat,v=exC.val7 b 0 3∧True∧∀y∈ [(b,true,Obj.cells ⟨lineC⟩ 25 (0,0))],H' y.1=some y.2∧H y.1=none):=by
 refine CallT.enter (vs:= []) Tryz.func103 rfl Tryz.ntmps103 (Nat.le_of_ble_eq_true rfl) (SymSt.nil _) fun St c cs hK=> ?_
 refine .sr ?_
 refine .e (.al (zz:=fun b0=> ?_))
 refine .done (.sr ?_)
 refine .c rfl rfl rfl rfl (fun H hs=> .f ca40 rfl (to_c M H (-2) 2)) ?_
 refine .x .bu ?_
 refine .e (.al (zz:=fun b1=> ?_))
 refine .e (.st 0 (zz:=?_))
 refine .done (.seq ?_)
 refine Tc.dr [8] [1] mixed rfl ?_
 refine .z 0 rfl (OpV.takeCall rfl rfl rfl rfl (fun H hs=> .f ca40 rfl (to_c M H 20 20))) ?_
 refine .z 1 rfl (OpV.takeCall rfl rfl rfl rfl (fun H hs=> .f ca40 rfl (to_c M H 20 20))) ?_
 refine .z 2 rfl (OpV.takeCall rfl rfl rfl rfl (fun H hs=> .f ca40 rfl (to_c M H 19 21))) ?_
 refine .q 3 rfl (.ld 0) ?_
 refine .q 4 rfl (.ld 0) ?_
 refine .q 5 rfl (.ld 0) ?_
 refine Ta.each [6] (by kernel_rfl) rfl ⟨TaOp.mk rfl rfl rfl (.bs (zz:=fun bl=> ⟨S2.mk (by apply List.Sublist.cons;exact List.sublist_append_left _ _) (.inr (by apply List.Sublist.cons;exact List.Sublist.refl _)),?_⟩)),trivial⟩
 refine .q 7 rfl .bu ?_
 refine Ta.each [8] (by kernel_rfl) rfl ⟨TaOp.mk rfl rfl rfl (.st 2 (zz:=⟨S2.mk (by apply List.Sublist.cons;exact List.sublist_append_left _ _) (.inl (by kernel_rfl)),?_⟩)),trivial⟩
 refine Ta.done (by kernel_rfl) ?_
 refine Tc.retN (E:=en) hK Tryz.func103 Tryz.results103 (vs:= [_]) (by refine⟨⟨2,_,_,_,_,_,_,_,rfl,rfl,rfl,rfl⟩,?_⟩;exact trivial) ?_
 exact fun H' hs=> ⟨hs.base,bl,rfl,trivial,fun y hy=> by
   simp only[List.mem_singleton] at hy
   subst hy
   exact⟨hs.get (i:=0) rfl,hs.fresh (i:=0) (x:=(true,.cells ⟨lineC⟩ 25 (0,0))) rfl⟩⟩
end
theorem SameNums_two(M:Md Tryz.prog)(H:View)(A B:Option Addr)(l:List Int)(n m ca cb:Nat)(hn:n=l.length)(hm:m=l.length)(h6:l.length≤1000)(hA:Nums H A l)(hB:Nums H B l):CallT M 23 #[.slice A n ca,.slice B m cb] H (fun v H'=> H.le H'∧v=.bool true):=by
 subst hn
 subst hm
 exact SameNums_same M H A B l _ ca cb rfl h6 hA hB
theorem SamePasts_two(M:Md Tryz.prog)(H:View)(s r e:Int)(A B:Option Addr)(l:List Int)(n m ca cb:Nat)(hn:n=l.length)(hm:m=l.length)(h6:l.length≤1000)(hA:Nums H A l)(hB:Nums H B l):
   CallT M 30 #[.agg ⟨[.int .i64 s,.int .i64 r,.int .i64 e,.slice A n ca]⟩,.agg ⟨[.int .i64 s,.int .i64 r,.int .i64 e,.slice B m cb]⟩] H (fun v H'=> H.le H'∧v=.bool true):=by
 subst hn
 subst hm
 exact SamePasts_same M H s r e A B l _ ca cb rfl h6 hA hB
theorem Nums.lit {H:View}{b:Nat}{l:List Int}(h:H b=some (true,.cells ⟨intsL l⟩ 3 (0,0))):Nums H (some ⟨b,0,none⟩) l:=
 .inr ⟨b,0,true,intsL l,3,(0,0),rfl,h,fun j hj=> by
   show(intsL l)[0+(j:Int).toNat*1]? =_
   rw[Nat.zero_add,Nat.mul_one,Int.toNat_natCast]
   unfold intsL
   rw[List.getElem?_map,List.getElem?_eq_getElem hj]
   rfl⟩
end Go.Proofs.YtpdaenfglbgfkaaGreatDoor
end
section
namespace Go.Proofs.YtpdaenfglbgfkaaGreatDoor
open Go.RL
set_option maxRecDepth 10000
set_option maxHeartbeats 4000000
section
variable(M:Md Tryz.prog)(H:View)
end
end Go.Proofs.YtpdaenfglbgfkaaGreatDoor
end
section
namespace Go.Proofs.YtpdaenfglbgfkaaGreatDoor
open Go.RL
set_option maxRecDepth 10000
set_option maxHeartbeats 8000000
theorem t243:Told [0,243]:=⟨by decide,by decide,by decide⟩
theorem t243_at {H:View}{b:Nat}(h:H b=some (true,.cells ⟨[.int .i64 0,.int .i64 243]⟩ 3 (0,0))):TimesAt H (some ⟨b,0,none⟩) [0,243]:=⟨b,0,true,_,3,(0,0),rfl,h,by decide,rfl⟩
theorem keep_eq {p:Nat→Bool}{k:Nat}{l:List Nat}(h:(List.range k).filter p=l):keepTo p k=intsL (numsL l):=by
 rw[←places_nums,←h]
 rfl
theorem ex_sec:exC.sec=0:=by unfold Ch.sec;simp[ex_weak.1]
theorem eg23:Tryz.prog.eqGuardType Tryz.prog.depth 23=false:=by kernel_rfl
theorem band_flat(a b:Int):flat en 2 23 [.int .i64 a,.int .i64 b]:=by
 refine⟨rfl,?_⟩
 intro f hf
 simp only[List.mem_cons,List.not_mem_nil,or_false] at hf
 rcases hf with rfl|rfl
 · exact⟨⟨_,rfl⟩,_,rfl,rfl,Nat.le_of_ble_eq_true rfl⟩
 · exact⟨⟨_,rfl⟩,_,rfl,rfl,Nat.le_of_ble_eq_true rfl⟩
theorem signalled_c(H:View)(hG:Glob H):CallT (Mp Tryz.prog) 31 #[] H (fun v H'=> H.le H'∧v=.bool true):=by
 refine CallT.enter (vs:= []) Tryz.func31 rfl Tryz.ntmps31 (Nat.le_of_ble_eq_true rfl) (SymSt.nil _) fun St c cs hK=> ?_
 refine .sr ?_
 refine .g ?_
 refine .done (.sr ?_)
 refine .c rfl rfl rfl rfl (fun H hs=> .f ca101 rfl (Example_c _ H)) ?_
 refine .c rfl rfl rfl rfl (fun H hs=> .f ca102 rfl (Leaning_c _ H)) ?_
 refine .e (.al (zz:=fun b1=> ?_))
 refine .e (.al (zz:=fun b2=> ?_))
 refine .e (.st 1 (zz:=?_))
 refine .e (.st 0 (zz:=?_))
 refine .done (.sr ?_)
 refine .x (.ld 1) ?_
 refine .e (.al (zz:=fun b3=> ?_))
 refine .e (.st 0 (zz:=?_))
 refine .done (.sr ?_)
 refine .c rfl rfl rfl rfl (fun H hs=> .f ca40 rfl (to_c _ H 19 21)) ?_
 refine .x .fa ?_
 refine .e (.st 0 (zz:=?_))
 refine .done ?_
 refine Tc.lift (L₂:= []) rfl (fun Hx hx=> ?_)
 have hGx:=glob_le hG hx.base
 have hle:=hx.base
 have x1:Hx b1=some (true,.cells ⟨exL.val.cells.toList⟩ 27 (0,0)):=hx.get (i:=2) rfl
 have x2:Hx b2=some (true,.cells ⟨exK.val.cells.toList⟩ 27 (0,0)):=hx.get (i:=1) rfl
 have x3:Hx b3=some (true,.cells ⟨exM.val.cells.toList⟩ 27 (0,0)):=hx.get (i:=0) rfl
 refine Tc.dropB (R':= [(1,.pointer (some ⟨b1,0,none⟩)),(2,.pointer (some ⟨b2,0,none⟩)),(3,.pointer (some ⟨b3,0,none⟩))]) (L':= []) ?_ ⟨rfl,rfl,rfl,trivial⟩ (List.Sublist.refl _)
 refine .sr ?_
 refine .e (Or.callNew (fun g:Gl 3 1=> .tuple ⟨[g.val,.int .i64 0]⟩) Gl.bl (fun g:Gl 3 1=> g.l=placesV (placesTo 16 7)) rfl rfl rfl rfl rfl (by decide) gl_nodup (fun H hs=> .f ca84 rfl (Edges_c _ H 16 (by decide))) (fun g1 hg1=> ?_))
 refine .m ?_
 refine .x .et ?_
 refine .x .et ?_
 refine .g ?_
 refine .g ?_
 refine .done (.sr ?_)
 refine .x .l0 ?_
 refine .e (Or.callNew (fun g:Gl 3 1=> .tuple ⟨[g.val,.int .i64 0]⟩) Gl.bl (fun g:Gl 3 1=> g.l=keepTo exK.sureOf 32) rfl rfl rfl rfl rfl (by decide) gl_nodup (fun H hs=> .f ca26 rfl (Sure_c _ H exK (glob_le hGx hs.base) exK_ok)) (fun g2 hg2=> ?_))
 refine .m ?_
 refine .x .et ?_
 refine .x .et ?_
 refine .g ?_
 refine .g ?_
 refine .done (.sr ?_)
 refine .x .l0 ?_
 refine .c rfl rfl rfl rfl (fun H hs=> .f ca24 rfl (CallT.is (.tuple ⟨[.int .i64 0,.int .i64 0]⟩) (by rewrite [ex_right];rfl) (Right_c _ H exK 0 (glob_le hGx hs.base) exK_ok (by decide)))) ?_
 refine .m ?_
 refine .x .et ?_
 refine .x .et ?_
 refine .g ?_
 refine .g ?_
 refine .done (.sr ?_)
 refine .x .l0 ?_
 refine .e (Or.callNew (fun g:Gl 3 1=> .tuple ⟨[g.val,.int .i64 0,.int .i64 0]⟩) Gl.bl (fun g:Gl 3 1=> g.l=keepTo (exK.canRead 0) 32) rfl rfl rfl rfl rfl (by decide) gl_nodup (fun H hs=> .f ca21 rfl (CallT.mono (Reads_one _ H exK 0 (glob_le hGx hs.base) exK_ok (by decide) (by rw[keep_eq ex_reads];decide)) (by rintro v H' ⟨h1,g,h2,h3,h4⟩;rw[ex_refused] at h2;exact⟨h1,g,h2,h3,h4⟩))) (fun g3 hg3=> ?_))
 refine .m ?_
 refine .x .et ?_
 refine .x .et ?_
 refine .x .et ?_
 refine .g ?_
 refine .g ?_
 refine .g ?_
 refine .done (.sr ?_)
 refine .x .l0 ?_
 refine .e (Or.callNew (fun g:Gl 3 1=> .tuple ⟨[pastV 20 19 1 g,.bool true,.int .i64 0]⟩) Gl.bl (fun g:Gl 3 1=> g.l=intsL [-3,3]) rfl rfl rfl rfl rfl (by decide) gl_nodup (fun H hs=> .f ca28 rfl (CallT.mono (Wrong_c _ H exK 0 (glob_le hGx hs.base) exK_ok (by decide)) (by rintro v H' ⟨h1,h2⟩;rw[ex_wrong] at h2;obtain⟨g,h3,h4,h5⟩:=h2;exact⟨h1,g,h3,h4,h5⟩))) (fun g4 hg4=> ?_))
 refine .m ?_
 refine .x .et ?_
 refine .x .et ?_
 refine .x .et ?_
 refine .e (.al (zz:=fun b13=> ?_))
 refine .e (.st 0 (zz:=?_))
 refine .g ?_
 refine .g ?_
 refine .done (.sr ?_)
 refine .x .l0 ?_
 refine .c rfl rfl rfl rfl (fun H hs=> .f ca32 rfl (CallT.is (.tuple ⟨[.int .i64 3,.int .i64 0]⟩) (by rewrite [ex_margin];rfl) (Margin_c _ H exL (glob_le hGx hs.base) exL_ok))) ?_
 refine .m ?_
 refine .x .et ?_
 refine .x .et ?_
 refine .g ?_
 refine .g ?_
 refine .done (.sr ?_)
 refine .x .l0 ?_
 refine .e (Or.callNew (fun g:Gl 3 1=> .tuple ⟨[g.val,.int .i64 0]⟩) Gl.bl (fun g:Gl 3 1=> g.l=keepTo exL.good 41) rfl rfl rfl rfl rfl (by decide) gl_nodup (fun H hs=> .f ca34 rfl (Paces_c _ H exL (glob_le hGx hs.base) exL_ok)) (fun g5 hg5=> ?_))
 refine .m ?_
 refine .x .et ?_
 refine .x .et ?_
 refine .g ?_
 refine .g ?_
 refine .done (.sr ?_)
 refine .x .l0 ?_
 refine .e (.bs (zz:=fun bt1=> ?_))
 refine .e (Or.callNew (fun g:Gl 3 1=> .tuple ⟨[g.val,.int .i64 0]⟩) Gl.bl (fun g:Gl 3 1=> g.l=keepTo (exL.sentOf [0,243]) 32) rfl rfl rfl rfl rfl (by decide) gl_nodup (fun H hs=> .f ca46 rfl (Sent_two _ H exL (glob_le hGx hs.base) exL_ok [0,243] t243 rfl (some ⟨bt1,0,none⟩) 2 (t243_at (hs.get (i:=0) rfl)))) (fun g6 hg6=> ?_))
 refine .m ?_
 refine .x .et ?_
 refine .x .et ?_
 refine .g ?_
 refine .g ?_
 refine .done (.sr ?_)
 refine .x .l0 ?_
 refine .e (.bs (zz:=fun bt2=> ?_))
 refine .c rfl rfl rfl rfl (fun H hs=> .f ca48 rfl (CallT.is (.tuple ⟨[bandV 20 20,.int .i64 0]⟩) (by rewrite [ex_tune];rfl) (Tune_c _ H exM 0 (glob_le hGx hs.base) exM_ok (by decide) [0,243] t243 (by decide) (by rw[ex_edges0];rfl) (some ⟨bt2,0,none⟩) 2 (t243_at (hs.get (i:=0) rfl))))) ?_
 refine .m ?_
 refine .x .et ?_
 refine .x .et ?_
 refine .e (.al (zz:=fun b22=> ?_))
 refine .e (.st 0 (zz:=?_))
 refine .g ?_
 refine .done (.sr ?_)
 refine .e (Or.callNew (fun b:Nat=> exC.val7 b 0 3) (fun b=> [(b,true,Obj.cells ⟨lineC⟩ 25 (0,0))]) (fun _=> True) rfl rfl rfl rfl rfl (by decide) (fun _=> by simp) (fun H hs=> .f ca103 rfl (Chained_c _ H)) (fun lb1 _=> ?_))
 refine .c rfl rfl rfl rfl (fun H hs=> .f ca58 rfl (CallT.is (.tuple ⟨[.int .i64 0,.int .i64 0,.bool true,.int .i64 0]⟩) (by rewrite [ex_sec,ex_weak.1,ex_weak.2];rfl) (Weak_c H exC lb1 0 3 0 none (exC_at (hs.at_ (lb1,true,.cells ⟨lineC⟩ 25 (0,0)) (by simp))) exC_good (glob_le hGx hs.base)))) ?_
 refine .m ?_
 refine .x .et ?_
 refine .x .et ?_
 refine .x .et ?_
 refine .x .et ?_
 refine .g ?_
 refine .g ?_
 refine .g ?_
 refine .g ?_
 refine .done (.sr ?_)
 refine .e (Or.callNew (fun b:Nat=> exC.val7 b 0 3) (fun b=> [(b,true,Obj.cells ⟨lineC⟩ 25 (0,0))]) (fun _=> True) rfl rfl rfl rfl rfl (by decide) (fun _=> by simp) (fun H hs=> .f ca103 rfl (Chained_c _ H)) (fun lb2 _=> ?_))
 refine .e (Or.callNew (fun g:Gl 3 1=> .tuple ⟨[g.val,.bool true,.int .i64 0]⟩) Gl.bl (fun g:Gl 3 1=> g.l=placesV [1]) rfl rfl rfl rfl rfl (by decide) gl_nodup (fun H hs=> .f ca54 rfl (CallT.mono (Spots_c H exC lb2 0 3 none (exC_at (hs.at_ (lb2,true,.cells ⟨lineC⟩ 25 (0,0)) (by simp))) exC_good (glob_le hGx hs.base)) (by rintro v H' ⟨h1,g,h2,h3,h4⟩;rw[ex_spots] at h2 h3;exact⟨h1,g,h2,h3,h4⟩))) (fun g7 hg7=> ?_))
 refine .m ?_
 refine .x .et ?_
 refine .x .et ?_
 refine .x .et ?_
 refine .g ?_
 refine .g ?_
 refine .g ?_
 refine .done ?_
 refine Tc.lift (L₂:= []) rfl (fun Hy hy=> ?_)
 have y22:Hy b22=some (true,.cells ⟨[.int .i64 20,.int .i64 20]⟩ 23 (0,0)):=hy.get (i:=0) rfl
 have y13:Hy b13=some (true,.cells ⟨[.int .i64 20,.int .i64 19,.int .i64 1,g4.val]⟩ 39 (0,0)):=hy.get (i:=3) rfl
 obtain⟨n1,N1⟩:=Nums.of (H:=Hy) (l:= [0,5]) (hg1.trans (by rw[ex_edges];rfl)) (fun y hy'=> hy.at_ y (by simp[hy']))
 obtain⟨n2,N2⟩:=Nums.of (H:=Hy) (hg2.trans (keepI_eq _ _)) (fun y hy'=> hy.at_ y (by simp[hy']))
 obtain⟨n3,N3⟩:=Nums.of (H:=Hy) (l:= [0]) (hg3.trans (keep_eq ex_reads)) (fun y hy'=> hy.at_ y (by simp[hy']))
 obtain⟨n4,N4⟩:=Nums.of (H:=Hy) (l:= [-3,3]) hg4 (fun y hy'=> hy.at_ y (by simp[hy']))
 obtain⟨n5,N5⟩:=Nums.of (H:=Hy) (l:= [19,20,21]) (hg5.trans (keep_eq ex_paces)) (fun y hy'=> hy.at_ y (by simp[hy']))
 obtain⟨n6,N6⟩:=Nums.of (H:=Hy) (l:= [0]) (hg6.trans (keep_eq ex_sent)) (fun y hy'=> hy.at_ y (by simp[hy']))
 obtain⟨n7,N7⟩:=Nums.of (H:=Hy) (l:= [1]) hg7 (fun y hy'=> hy.at_ y (by simp[hy']))
 have hle2:=View.le_trans hle hy.base
 clear hy x1 x2 x3
 have l2:(keepI exK.sureOf 32).length=16:=by unfold keepI;rw[List.length_map];exact ex_sure.1
 have e2:(keepI exK.sureOf 32)[0]?.getD 0=16:=by unfold keepI;rw[List.getElem?_map,ex_sure.2];rfl
 rw[l2] at n2
 obtain⟨gb2,gn2,gc2,gl2,gj2,q1,q2,q3,q4⟩:=g2
 simp only at n2 N2
 subst n2
 rcases N2 with N2|⟨ab,ao,f2,gs2,gt2,gz2,hA,hB,hC⟩
 · rw[N2] at l2;cases l2
 have hC0:=hC 0 (by omega)
 rw[e2] at hC0
 cases gb2 with
 | none=> cases hA
 | some vb=>
 simp only[Option.map_some,Option.some.injEq,Addr.mk.injEq,and_true] at hA
 obtain⟨rfl,rfl⟩:=hA
 refine Tc.dropB (R':= [(4,g1.val),(5,.int .i64 0),(6,.slice (some ⟨vb,0,none⟩) 16 gc2),(7,.int .i64 0),(8,.int .i64 0),(9,.int .i64 0),(10,g3.val),(11,.int .i64 0),(12,.int .i64 0),(13,.pointer (some ⟨b13,0,none⟩)),(14,.bool true),(15,.int .i64 0),(16,.int .i64 3),(17,.int .i64 0),(18,g5.val),(19,.int .i64 0),(20,g6.val),(21,.int .i64 0),
   (22,.pointer (some ⟨b22,0,none⟩)),(23,.int .i64 0),(24,.int .i64 0),(25,.int .i64 0),(26,.bool true),(27,.int .i64 0),(28,g7.val),(29,.bool true),(30,.int .i64 0)]) (L':= []) ?_ ⟨rfl,rfl,rfl,rfl,rfl,rfl,rfl,rfl,rfl,rfl,rfl,rfl,rfl,rfl,rfl,rfl,rfl,rfl,rfl,rfl,rfl,rfl,rfl,rfl,rfl,rfl,rfl,trivial⟩ (List.Sublist.refl _)
 refine .seq (.sr ?_)
 refine .m ?_
 refine .i ?_ (z:=neq_f (by omega))
 refine .m ?_
 refine .m ?_
 refine .i ?_ (z:=neq_f (by omega))
 refine .x .pk ?_
 refine .m ?_
 refine .m ?_
 refine .i ?_ (z:=neq_f (by omega))
 refine .x .pk ?_
 refine .m ?_
 refine .m ?_
 refine .i ?_ (z:=neq_f (by omega))
 refine .x .pk ?_
 refine .m ?_
 refine .m ?_
 refine .i ?_ (z:=neq_f (by omega))
 refine .x .pk ?_
 refine .m ?_
 refine .m ?_
 refine .i ?_ (z:=neq_f (by omega))
 refine .x .pk ?_
 refine .m ?_
 refine .m ?_
 refine .i ?_ (z:=neq_f (by omega))
 refine .x .pk ?_
 refine .m ?_
 refine .m ?_
 refine .i ?_ (z:=neq_f (by omega))
 refine .x .pk ?_
 refine .m ?_
 refine .m ?_
 refine .i ?_ (z:=neq_f (by omega))
 refine .x .pk ?_
 refine .m ?_
 refine .m ?_
 refine .i ?_ (z:=neq_f (by omega))
 refine .x .pk ?_
 refine .m ?_
 refine .m ?_
 refine .i ?_ (z:=neq_f (by omega))
 refine .x .pk ?_
 refine .done (.ff rfl (.skip (.seq (.seq ?_))))
 refine Tc.dropB (R':= [(4,g1.val),(6,.slice (some ⟨vb,0,none⟩) 16 gc2),(8,.int .i64 0),(10,g3.val),(11,.int .i64 0),(13,.pointer (some ⟨b13,0,none⟩)),(14,.bool true),(16,.int .i64 3),(18,g5.val),(20,g6.val),
   (22,.pointer (some ⟨b22,0,none⟩)),(24,.int .i64 0),(25,.int .i64 0),(26,.bool true),(28,g7.val),(29,.bool true)]) (L':= []) ?_ ⟨rfl,rfl,rfl,rfl,rfl,rfl,rfl,rfl,rfl,rfl,rfl,rfl,rfl,rfl,rfl,rfl,trivial⟩ (List.Sublist.refl _)
 refine Tc.dr [] [] mixed rfl ?_
 refine .q 0 rfl .mv ?_
 refine .q 1 rfl (.it (zz:=neq_f (by omega))) ?_
 refine .q 2 rfl .mv ?_
 refine .q 3 rfl .mv ?_
 refine .q 4 rfl (.it (zz:=neq_f (by omega))) ?_
 refine .q 5 rfl .pk ?_
 refine .q 6 rfl .mv ?_
 refine .q 7 rfl .mv ?_
 refine .q 8 rfl .nt ?_
 refine .q 9 rfl .pk ?_
 refine .q 10 rfl .mv ?_
 refine .q 11 rfl .l0 ?_
 refine Ta.each [12] (by kernel_rfl) rfl ⟨TaOp.mk rfl rfl rfl (.bs (zz:=fun bp=> ⟨S2.mk (by exact List.nil_sublist _) (.inr (by exact List.nil_sublist _)),?_⟩)),trivial⟩
 refine .q 13 rfl .bu ?_
 refine Ta.each [14] (by kernel_rfl) rfl ⟨TaOp.mk rfl rfl rfl (Or.callNew (σ:=Unit) (fun _=> .bool true) (fun _=> []) (fun _=> True) rfl rfl rfl rfl rfl (by decide) (fun _=> by simp) (fun H hs=> .f ca30 rfl (CallT.mono (SamePasts_two _ H 20 19 1 _ (some ⟨bp,0,none⟩) [-3,3] g4.n 2 g4.cap 2 n4 rfl (by decide) (N4.le hs.base) (Nums.lit (hs.get (i:=0) rfl))) (by rintro v H' ⟨h1,h2⟩;exact⟨h1,(),h2,trivial,by simp⟩))) (fun _ _=> ⟨S2.mk (by exact List.nil_sublist _) (.inr (by exact List.nil_sublist _)),?_⟩)),trivial⟩
 refine .q 15 rfl .nt ?_
 refine .q 16 rfl .pk ?_
 refine .q 17 rfl .mv ?_
 refine .q 18 rfl .mv ?_
 refine .q 19 rfl (.it (zz:=neq_f (by omega))) ?_
 refine .q 20 rfl .pk ?_
 refine .q 21 rfl .mv ?_
 refine .q 22 rfl .l0 ?_
 refine .z 23 rfl (OpV.takeCall rfl rfl rfl rfl (fun H hs=> .f ca40 rfl (to_c _ H 20 20))) ?_
 refine .q 24 rfl (OpV.neA (E:=en) true 2 rfl rfl rfl rfl rfl eg23 (by decide) (band_flat 20 20) (band_flat 20 20) ⟨fun _=> rfl,fun _=> rfl⟩) ?_
 refine .q 25 rfl .pk ?_
 refine .q 26 rfl .mv ?_
 refine .q 27 rfl .mv ?_
 refine .q 28 rfl (.it (zz:=neq_f (by omega))) ?_
 refine .q 29 rfl .pk ?_
 refine .q 30 rfl .mv ?_
 refine .q 31 rfl .mv ?_
 refine .q 32 rfl (.it (zz:=neq_f (by omega))) ?_
 refine .q 33 rfl .pk ?_
 refine .q 34 rfl .mv ?_
 refine .q 35 rfl .mv ?_
 refine .q 36 rfl .nt ?_
 refine .q 37 rfl .pk ?_
 refine .q 38 rfl .mv ?_
 refine .q 39 rfl .mv ?_
 refine .q 40 rfl .nt ?_
 refine .q 41 rfl .pk ?_
 refine Ta.done (by kernel_rfl) ?_
 refine .ff rfl (.skip (.seq ?_))
 refine Tc.dropB (R':= [(4,g1.val),(6,.slice (some ⟨vb,0,none⟩) 16 gc2),(10,g3.val),(18,g5.val),(20,g6.val),(28,g7.val)]) (L':= []) ?_ ⟨rfl,rfl,rfl,rfl,rfl,rfl,trivial⟩ (List.nil_sublist _)
 refine .r ?_
 refine .m ?_
 refine .e (.bs (zz:=fun c1=> ?_))
 refine .c rfl rfl rfl rfl (fun H hs=> .f ca23 rfl (SameNums_two _ H _ (some ⟨c1,0,none⟩) [0,5] g1.n 2 g1.cap 2 n1 rfl (by decide) (N1.le hs.base) (Nums.lit (hs.get (i:=0) rfl)))) ?_
 refine .m ?_
 refine .m ?_
 refine .x .ln ?_
 refine .i ?_ (z:=eql_t (by omega))
 refine .x .pk ?_
 refine .m ?_
 refine .m ?_
 refine .x .ia ?_
 refine .x .l0 ?_
 refine .i ?_ (z:=eql_t (by omega))
 refine .x .pk ?_
 refine .m ?_
 refine .m ?_
 refine .e (.bs (zz:=fun c2=> ?_))
 refine .c rfl rfl rfl rfl (fun H hs=> .f ca23 rfl (SameNums_two _ H _ (some ⟨c2,0,none⟩) [0] g3.n 1 g3.cap 1 n3 rfl (by decide) (N3.le hs.base) (Nums.lit (hs.get (i:=0) rfl)))) ?_
 refine .x .pk ?_
 refine .m ?_
 refine .m ?_
 refine .e (.bs (zz:=fun c3=> ?_))
 refine .c rfl rfl rfl rfl (fun H hs=> .f ca23 rfl (SameNums_two _ H _ (some ⟨c3,0,none⟩) [19,20,21] g5.n 3 g5.cap 3 n5 rfl (by decide) (N5.le hs.base) (Nums.lit (hs.get (i:=0) rfl)))) ?_
 refine .x .pk ?_
 refine .m ?_
 refine .m ?_
 refine .e (.bs (zz:=fun c4=> ?_))
 refine .c rfl rfl rfl rfl (fun H hs=> .f ca23 rfl (SameNums_two _ H _ (some ⟨c4,0,none⟩) [0] g6.n 1 g6.cap 1 n6 rfl (by decide) (N6.le hs.base) (Nums.lit (hs.get (i:=0) rfl)))) ?_
 refine .x .pk ?_
 refine .m ?_
 refine .m ?_
 refine .e (.bs (zz:=fun c5=> ?_))
 refine .c rfl rfl rfl rfl (fun H hs=> .f ca23 rfl (SameNums_two _ H _ (some ⟨c5,0,none⟩) [1] g7.n 1 g7.cap 1 n7 rfl (by decide) (N7.le hs.base) (Nums.lit (hs.get (i:=0) rfl)))) ?_
 refine .x .pk ?_
 refine .g ?_
 refine .done ?_
 refine .rt hK Tryz.func31 Tryz.results31 [_] ?_
 exact fun H' hs=> ⟨View.le_trans hle2 hs.base,rfl⟩
end Go.Proofs.YtpdaenfglbgfkaaGreatDoor
end
section
namespace Go.Proofs.YtpdaenfglbgfkaaGreatDoor
open Go.RL
set_option maxRecDepth 10000
set_option maxHeartbeats 8000000
end Go.Proofs.YtpdaenfglbgfkaaGreatDoor
end
section
namespace Go.Proofs.YtpdaenfglbgfkaaGreatDoor
open Go.RL
set_option maxRecDepth 10000
set_option maxHeartbeats 8000000
section
variable(M:Md Tryz.prog)(H:View)
end
end Go.Proofs.YtpdaenfglbgfkaaGreatDoor
end
section
namespace Go.Proofs.YtpdaenfglbgfkaaGreatDoor
open Go.RL
set_option maxRecDepth 10000
set_option maxHeartbeats 8000000
end Go.Proofs.YtpdaenfglbgfkaaGreatDoor
end
section
namespace Go.Proofs.YtpdaenfglbgfkaaGreatDoor
open Go.RL
set_option maxRecDepth 10000
def at0(l:List Int)(i:Nat):Int:=l[i]?.getD 0
structure Turned(a b:Nat)(l m:List Int):Prop where
 len:m.length=l.length
 cnt:∀x,m.count x=l.count x
 out:∀i,i<a∨b≤i→at0 m i=at0 l i
def Srt(a b:Nat)(l:List Int):Prop:=∀p q,a≤p→p<q→q<b→at0 l p≤at0 l q
end Go.Proofs.YtpdaenfglbgfkaaGreatDoor
end
section
namespace Go.RL
open Go.Conc
end Go.RL
namespace Go.Proofs.YtpdaenfglbgfkaaGreatDoor
open Go.RL
set_option maxRecDepth 10000
set_option maxHeartbeats 4000000
section
variable(M:Md Tryz.prog)(H:View)
end
end Go.Proofs.YtpdaenfglbgfkaaGreatDoor
end
section
namespace Go.Proofs.YtpdaenfglbgfkaaGreatDoor
open Go.RL
set_option maxRecDepth 10000
set_option maxHeartbeats 8000000
section
variable(M:Md Tryz.prog)(H:View)
end
end Go.Proofs.YtpdaenfglbgfkaaGreatDoor
end
section
namespace Go.Proofs.YtpdaenfglbgfkaaGreatDoor
open Go.RL
set_option maxRecDepth 10000
def Heap(f lo hi:Nat)(l:List Int):Prop:=∀k c,lo≤k→(c=2*k+1∨c=2*k+2)→c<hi→at0 l (f+c)≤at0 l (f+k)
end Go.Proofs.YtpdaenfglbgfkaaGreatDoor
end
section
namespace Go.Proofs.YtpdaenfglbgfkaaGreatDoor
open Go.RL
set_option maxRecDepth 10000
set_option maxHeartbeats 8000000
section
variable(M:Md Tryz.prog)(H:View)
end
end Go.Proofs.YtpdaenfglbgfkaaGreatDoor
end
section
namespace Go.Proofs.YtpdaenfglbgfkaaGreatDoor
open Go.RL
set_option maxRecDepth 10000
set_option maxHeartbeats 8000000
structure HeapTo(f hi s:Nat)(u:List Int):Prop where
 heap:Heap f 0 s u
 srt:Srt (f+s) (f+hi) u
 low:∀p q,p<s→s≤q→q<hi→at0 u (f+p)≤at0 u (f+q)
section
variable(M:Md Tryz.prog)(H:View)
end
end Go.Proofs.YtpdaenfglbgfkaaGreatDoor
end
section
namespace Go.Proofs.YtpdaenfglbgfkaaGreatDoor
open Go.RL
set_option maxRecDepth 10000
set_option maxHeartbeats 8000000
section
variable(M:Md Tryz.prog)(H:View)
end
end Go.Proofs.YtpdaenfglbgfkaaGreatDoor
end
section
namespace Go.Proofs.YtpdaenfglbgfkaaGreatDoor
open Go.RL
set_option maxRecDepth 10000
set_option maxHeartbeats 8000000
section
variable(M:Md Tryz.prog)(H:View)
end
end Go.Proofs.YtpdaenfglbgfkaaGreatDoor
end
section
namespace Go.Proofs.YtpdaenfglbgfkaaGreatDoor
open Go.RL
set_option maxRecDepth 10000
structure Pti(a b i j:Nat)(u:List Int):Prop where
 ai:a+1≤i
 ij:i≤j+1
 jb:j<b
 aj:a≤j
 lo:∀k,a<k→k<i→at0 u k<at0 u a
 hi:∀k,j<k→k<b→at0 u a≤at0 u k
structure Part(a b j:Nat)(u:List Int):Prop where
 aj:a≤j
 jb:j<b
 lo:∀k,a≤k→k<j→at0 u k<at0 u j
 hi:∀k,j<k→k<b→at0 u j≤at0 u k
end Go.Proofs.YtpdaenfglbgfkaaGreatDoor
end
section
namespace Go.Proofs.YtpdaenfglbgfkaaGreatDoor
open Go.RL
set_option maxRecDepth 10000
set_option maxHeartbeats 16000000
section
variable(M:Md Tryz.prog)(H:View)
end
end Go.Proofs.YtpdaenfglbgfkaaGreatDoor
end
section
namespace Go.Proofs.YtpdaenfglbgfkaaGreatDoor
open Go.RL
set_option maxRecDepth 10000
set_option maxHeartbeats 8000000
section
variable(M:Md Tryz.prog)(H:View)
end
end Go.Proofs.YtpdaenfglbgfkaaGreatDoor
end
section
namespace Go.Proofs.YtpdaenfglbgfkaaGreatDoor
open Go.RL
set_option maxRecDepth 10000
set_option maxHeartbeats 8000000
def bl(x:Nat):Nat:=if x=0 then 0 else Nat.log2 x+1
section
variable(M:Md Tryz.prog)(H:View)
end
end Go.Proofs.YtpdaenfglbgfkaaGreatDoor
end
section
namespace Go.Proofs.YtpdaenfglbgfkaaGreatDoor
open Go.RL
set_option maxRecDepth 10000
set_option maxHeartbeats 8000000
section
variable(M:Md Tryz.prog)(H:View)
end
end Go.Proofs.YtpdaenfglbgfkaaGreatDoor
end
section
namespace Go.Proofs.YtpdaenfglbgfkaaGreatDoor
open Go.RL
set_option maxRecDepth 10000
set_option maxHeartbeats 8000000
section
variable(M:Md Tryz.prog)(H:View)
end
end Go.Proofs.YtpdaenfglbgfkaaGreatDoor
end
section
namespace Go.Proofs.YtpdaenfglbgfkaaGreatDoor
open Go.RL
set_option maxRecDepth 10000
end Go.Proofs.YtpdaenfglbgfkaaGreatDoor
end
section
namespace Go.Proofs.YtpdaenfglbgfkaaGreatDoor
open Go.RL
set_option maxRecDepth 10000
set_option maxHeartbeats 16000000
section
variable(M:Md Tryz.prog)
end
end Go.Proofs.YtpdaenfglbgfkaaGreatDoor
end
section
namespace Go.Proofs.YtpdaenfglbgfkaaGreatDoor
open Go.RL
set_option maxRecDepth 10000
set_option maxHeartbeats 8000000
section
variable(M:Md Tryz.prog)(H:View)
end
end Go.Proofs.YtpdaenfglbgfkaaGreatDoor
end
section
namespace Go.Proofs.YtpdaenfglbgfkaaGreatDoor
open Go.RL
set_option maxRecDepth 10000
set_option maxHeartbeats 4000000
section
variable(M:Md Tryz.prog)(H:View)
end
end Go.Proofs.YtpdaenfglbgfkaaGreatDoor
end
section
namespace Go.Proofs.YtpdaenfglbgfkaaGreatDoor
open Go.RL
set_option maxRecDepth 10000
set_option maxHeartbeats 4000000
structure Tells(k:Lk)(c:Nat)(rd:Option Nat):Prop where
 always:k.claim c=1→rd=some c∧keepI (k.canRead c) 32= [(c:Int)]∧k.refused c=2
 never:k.claim c=2→rd≠some c
 refused:k.refused c=1→rd=none
 taken:k.refused c=2→rd≠none
 found:∀n,rd=some n→(n:Int)∈keepI (k.canRead c) 32
 sure:k.sureOf c=true↔k.claim c=1
end Go.Proofs.YtpdaenfglbgfkaaGreatDoor
end
section
namespace Go.Proofs.YtpdaenfglbgfkaaGreatDoor
open Go.RL
set_option maxRecDepth 10000
set_option maxHeartbeats 4000000
theorem want_wrong:∀v:Nat,v<128→∀c:Nat,c<32→wantQ (-1) c (readN v)=(v !=rightN c):=by decide +kernel
theorem find_congr {α:Type}{p q:α→Bool}:∀ {l:List α},(∀x∈l,p x=q x)→l.find? p=l.find? q
 | [],_=> rfl
 | x::l,h=> by
   rw[List.find?_cons,List.find?_cons,h x (List.mem_cons_self ..),find_congr fun y hy=> h y (List.mem_cons_of_mem _ hy)]
theorem findSome_congr {α β:Type}{f g:α→Option β}:∀ {l:List α},(∀x∈l,f x=g x)→l.findSome? f=l.findSome? g
 | [],_=> rfl
 | x::l,h=> by
   rw[List.findSome?_cons,List.findSome?_cons,h x (List.mem_cons_self ..),findSome_congr fun y hy=> h y (List.mem_cons_of_mem _ hy)]
theorem Stg.ask_wrong {s:Stg}(hc:s.code<32):((s.ask (-1)).map fun mv=> (s.send,s.read,s.lean,mv))=s.wrong (rightN s.code):=by
 unfold Stg.ask Stg.wrong leafR
 rw[find_congr (q:=notRt (rightN s.code)) (fun x hx=> want_wrong x.1 (s.leaves_lt _ _ _ _ _ (by decide) hx) s.code hc),Option.map_map]
 rfl
theorem Lk.first_wrong {k:Lk}{c:Nat}(hc:c<32):k.first (-1) c=k.wrong c:=by
 unfold Lk.first firstIn Lk.wrong
 refine findSome_congr fun s hs=> ?_
 obtain⟨a,r,n,f,_,_,_,_,rfl⟩:=Lk.mem_stgs.1 hs
 exact Stg.ask_wrong hc
def Lk.unsure(k:Lk):Int:=match k.weak with
 | some n=> (n:Nat)
 | none=> -1
end Go.Proofs.YtpdaenfglbgfkaaGreatDoor
end
section
namespace Go.Proofs.YtpdaenfglbgfkaaGreatDoor
open Go.RL
set_option maxRecDepth 10000
set_option maxHeartbeats 8000000
section
variable(M:Md Tryz.prog)(H:View)
theorem refLink_is(k:Lk)(t:Bool)(ht:k.ok=t)(n:Int)(hn:n=if t then 0 else 1):CallT M 61 #[k.val] H (fun v H'=> H.le H'∧v=.int .i64 n):=
 CallT.mono (refLink_c M H k) (by rintro v H' ⟨h1,h2⟩;rw[ht] at h2;rw[hn];exact⟨h1,h2⟩)
theorem First_any(k:Lk)(hk:k.ok=true)(co:Nat)(hc:co<32)(want:Int)(hw: -1≤want∧want≤32)(t:Bool)(ht:(k.first want co).isSome=t):
   CallT M 94 #[k.val,.int .i64 co,.int .i64 want] H (fun v H'=> H.le H'∧∃x:Int×Int×Int×Gl 3 1,v=.tuple ⟨[pastV x.1 x.2.1 x.2.2.1 x.2.2.2,.bool t]⟩∧True∧∀y∈x.2.2.2.bl,H' y.1=some y.2∧H y.1=none):=
 CallT.mono (First_c M H k hk co hc want hw) (by
   rintro v H' ⟨h1,h2⟩
   refine⟨h1,?_⟩
   cases hf:k.first want co with
   | none=>
     rw[hf] at h2 ht
     simp only[Option.isSome_none] at ht
     subst ht
     exact⟨(0,0,0,Gl.nil 3 1),h2,trivial,by simp[Gl.nil,Gl.bl]⟩
   | some w=>
     obtain⟨a,r,n,mv⟩:=w
     rw[hf] at h2 ht
     simp only[Option.isSome_some] at ht
     subst ht
     obtain⟨g,h3,_,h4⟩:=h2
     exact⟨(a,r,n,g),h3,trivial,h4⟩)
theorem IsSure_is(k:Lk)(hk:k.ok=true)(co:Nat)(hc:co<32)(t:Bool)(ht:k.sureOf co=t):CallT M 96 #[k.val,.int .i64 (co:Nat)] H (fun v H'=> H.le H'∧v=.bool t):=by
 have hf:(k.first (-1) co).isSome=!t:=by
   rw[Lk.first_wrong hc,←ht]
   unfold Lk.sureOf
   cases k.wrong co <;> rfl
 refine CallT.enter (vs:= [k.val,.int .i64 (co:Nat)]) Tryz.func96 rfl Tryz.ntmps96 (Nat.le_of_ble_eq_true rfl) (SymSt.nil _) fun St c cs hK=> ?_
 refine .sr ?_
 refine .e (.bx (zz:=fun b2=> ?_))
 refine .g ?_
 refine .done (.sr ?_)
 refine .x (.ld 0) ?_
 refine .m ?_
 refine .e (Or.callNew (fun x:Int×Int×Int×Gl 3 1=> .tuple ⟨[pastV x.1 x.2.1 x.2.2.1 x.2.2.2,.bool (!t)]⟩) (fun x=> x.2.2.2.bl) (fun _=> True) rfl rfl rfl rfl rfl (by decide) (fun x=> gl_nodup x.2.2.2) (fun H hs=> .f ca94 rfl (First_any M H k hk co hc (-1) ⟨by decide,by decide⟩ (!t) hf)) (fun x hx=> ?_))
 refine .m ?_
 refine .x .et ?_
 refine .x .et ?_
 refine .e (.al (zz:=fun b5=> ?_))
 refine .e (.st 0 (zz:=?_))
 refine .g ?_
 refine .done ?_
 refine Tc.db (R':= [(6,.bool (!t))]) (L':= []) ?_
 cases t
 · refine .sr ?_
   refine .m ?_
   refine .x .nt ?_
   refine .g ?_
   refine .done ?_
   refine .rt hK Tryz.func96 Tryz.results96 [_] ?_
   exact fun H' hs=> ⟨hs.base,rfl⟩
 · refine .sr ?_
   refine .m ?_
   refine .x .nt ?_
   refine .g ?_
   refine .done ?_
   refine .rt hK Tryz.func96 Tryz.results96 [_] ?_
   exact fun H' hs=> ⟨hs.base,rfl⟩
theorem Unsure_c(k:Lk)(hk:k.ok=true):CallT M 107 #[k.val] H (fun v H'=> H.le H'∧v=.int .i64 k.unsure):=by
 refine CallT.enter (vs:= [k.val]) Tryz.func107 rfl Tryz.ntmps107 (Nat.le_of_ble_eq_true rfl) (SymSt.nil _) fun St c cs hK=> ?_
 refine .sr ?_
 refine .e (.bx (zz:=fun b1=> ?_))
 refine .g ?_
 refine .done (.seq (.sr ?_))
 refine .g ?_
 refine .done (.block ?_)
 refine Tc.db (Tc.loopInv (σ:= { i:Nat//i≤32∧firstTo k.weakAt i=none })
   (fun i=> ([(1,.pointer (some ⟨b1,0,none⟩)),(3,.int .i64 (i.1:Nat))],[(b1,true,.cells ⟨k.val.cells.toList⟩ 27 (0,0))])) (fun i=> 32-i.1) ?_ ⟨0,by decide,rfl⟩)
 rintro⟨i,g1,g2⟩ ih
 show Tc M St _ _ _ _ [(1,.pointer (some ⟨b1,0,none⟩)),(3,.int .i64 (i:Nat))] [(b1,true,.cells ⟨k.val.cells.toList⟩ 27 (0,0))] _ _
 by_cases c1:i=32
 · subst c1
   have hu:k.unsure= -1:=by unfold Lk.unsure Lk.weak;rw[g2]
   rw[hu] at hK
   refine .seq (.sr ?_)
   refine .m ?_
   refine .i ?_ (z:=leq_f (by omega))
   refine .done (.ff rfl (.exit rfl (.sr ?_)))
   refine .g ?_
   refine .done ?_
   refine .rt hK Tryz.func107 Tryz.results107 [_] ?_
   exact fun H' hs=> ⟨hs.base,rfl⟩
 · cases hso:k.sureOf i with
   | true=>
     have hw:k.weakAt i=false:=by
       unfold Lk.weakAt
       unfold Lk.sureOf at hso
       rw[Option.isNone_iff_eq_none] at hso
       rw[hso]
       rfl
     refine .seq (.sr ?_)
     refine .m ?_
     refine .i ?_ (z:=leq_t (by omega))
     refine .done (.tt rfl (.skip (.seq (.block (.sr ?_)))))
     refine .x (.ld 0) ?_
     refine .m ?_
     refine .c rfl rfl rfl rfl (fun H hs=> .f ca96 rfl (IsSure_is M H k hk i (by omega) true hso)) ?_
     refine .x .nt ?_
     refine .done (.ff rfl (.skip (.inBlock (.r ?_))))
     refine .m ?_
     refine .i ?_ (z:=add_in (by omega) (by omega))
     refine .g ?_
     refine .done ?_
     exact Tc.db (ih ⟨i+1,by omega,by simp[firstTo,g2,hw]⟩ (by simp only;omega))
   | false=>
     have hw:k.weakAt i=true:=by
       unfold Lk.weakAt
       unfold Lk.sureOf at hso
       cases h:k.wrong i with
       | none=> rw[h] at hso;cases hso
       | some w=> rfl
     have h1:firstTo k.weakAt (i+1)=some i:=by simp[firstTo,g2,hw]
     have hu:k.unsure=(i:Nat):=by unfold Lk.unsure Lk.weak;rw[firstTo_stays h1 32 (by omega)]
     rw[hu] at hK
     refine .seq (.sr ?_)
     refine .m ?_
     refine .i ?_ (z:=leq_t (by omega))
     refine .done (.tt rfl (.skip (.seq (.block (.sr ?_)))))
     refine .x (.ld 0) ?_
     refine .m ?_
     refine .c rfl rfl rfl rfl (fun H hs=> .f ca96 rfl (IsSure_is M H k hk i (by omega) false hso)) ?_
     refine .x .nt ?_
     refine .done (.tt rfl (.sr ?_))
     refine .m ?_
     refine .g ?_
     refine .done ?_
     refine .rt hK Tryz.func107 Tryz.results107 [_] ?_
     exact fun H' hs=> ⟨hs.base,rfl⟩
def Bad(k:Lk)(co:Int):Prop:=k.ok=false∨¬(0≤co∧co≤31)
end
end Go.Proofs.YtpdaenfglbgfkaaGreatDoor
end
section
namespace Go.Proofs.YtpdaenfglbgfkaaGreatDoor
open Go.RL
set_option maxRecDepth 10000
set_option maxHeartbeats 8000000
section
variable(M:Md Tryz.prog)(H:View)
theorem Lk.unsure_none {k:Lk}(h:k.weak=none):k.unsure= -1:=by unfold Lk.unsure;rw[h]
theorem Lk.unsure_some {k:Lk}{n:Nat}(h:k.weak=some n):k.unsure=(n:Nat):=by unfold Lk.unsure;rw[h]
theorem Unsure_is(k:Lk)(hk:k.ok=true)(x:Int)(hx:k.unsure=x):CallT M 107 #[k.val] H (fun v H'=> H.le H'∧v=.int .i64 x):=by
 subst hx
 exact Unsure_c M H k hk
end
end Go.Proofs.YtpdaenfglbgfkaaGreatDoor
end
section
namespace Go.Proofs.YtpdaenfglbgfkaaGreatDoor
open Go.RL
set_option maxRecDepth 10000
set_option maxHeartbeats 4000000
section
variable(M:Md Tryz.prog)(H:View)
end
end Go.Proofs.YtpdaenfglbgfkaaGreatDoor
end
section
namespace Go.Proofs.YtpdaenfglbgfkaaGreatDoor
open Go.RL
set_option maxRecDepth 10000
set_option maxHeartbeats 8000000
theorem eg27:Tryz.prog.eqGuardType Tryz.prog.depth 27=false:=by kernel_rfl
theorem line_flat(a b c d:Int):flat en 3 25 [.int .i64 a,.int .i64 b,.int .i64 c,.int .i64 d]:=by
 refine⟨rfl,?_⟩
 intro f hf
 simp only[List.mem_cons,List.not_mem_nil,or_false] at hf
 rcases hf with rfl|rfl
 · exact⟨band_flat a b,_,rfl,rfl,Nat.le_of_ble_eq_true rfl⟩
 · exact⟨band_flat c d,_,rfl,rfl,Nat.le_of_ble_eq_true rfl⟩
theorem band_flat3(a b:Int):flat en 3 23 [.int .i64 a,.int .i64 b]:=by
 refine⟨rfl,?_⟩
 intro f hf
 simp only[List.mem_cons,List.not_mem_nil,or_false] at hf
 rcases hf with rfl|rfl
 · exact⟨⟨_,rfl⟩,_,rfl,rfl,Nat.le_of_ble_eq_true rfl⟩
 · exact⟨⟨_,rfl⟩,_,rfl,rfl,Nat.le_of_ble_eq_true rfl⟩
theorem link_flat(k:Lk):flat en 4 27 [.int .i64 k.s0,.int .i64 k.s1,.int .i64 k.r0,.int .i64 k.r1,.int .i64 k.l0,.int .i64 k.l1,.int .i64 k.m0,.int .i64 k.m1]:=by
 refine⟨rfl,?_⟩
 intro f hf
 simp only[List.mem_cons,List.not_mem_nil,or_false] at hf
 rcases hf with rfl|rfl|rfl
 · exact⟨band_flat3 k.s0 k.s1,_,rfl,rfl,Nat.le_of_ble_eq_true rfl⟩
 · exact⟨band_flat3 k.r0 k.r1,_,rfl,rfl,Nat.le_of_ble_eq_true rfl⟩
 · exact⟨line_flat k.l0 k.l1 k.m0 k.m1,_,rfl,rfl,Nat.le_of_ble_eq_true rfl⟩
end Go.Proofs.YtpdaenfglbgfkaaGreatDoor
end
section
namespace Go.Proofs.YtpdaenfglbgfkaaGreatDoor
open Go.RL
set_option maxRecDepth 10000
set_option maxHeartbeats 8000000
def seenL(ps:List Nat)(mv:List Int)(a n:Int):List Int:=(List.range ps.length).map (seenAt ps mv a n)
section
variable(M:Md Tryz.prog)(H:View)
end
end Go.Proofs.YtpdaenfglbgfkaaGreatDoor
end
section
namespace Go.Proofs.YtpdaenfglbgfkaaGreatDoor
open Go.RL
set_option maxRecDepth 10000
set_option maxHeartbeats 8000000
inductive PErr(k:Lk):Int→Int→Int→Int→List Int→Int→Prop
 | bad {co a r n:Int} {mv:List Int}:Bad k co→PErr k co a r n mv 1
 | send {co:Nat} {a r n:Int} {mv:List Int}:k.ok=true→co<32→¬(k.s0≤a∧a≤k.s1)→PErr k co a r n mv 1
 | read {co:Nat} {a r n:Int} {mv:List Int}:k.ok=true→co<32→(k.s0≤a∧a≤k.s1)→¬(k.r0≤r∧r≤k.r1)→PErr k co a r n mv 1
 | lean {co:Nat} {a r n:Int} {mv:List Int}:k.ok=true→co<32→(k.s0≤a∧a≤k.s1)→(k.r0≤r∧r≤k.r1)→¬(k.l0≤n∧n≤k.l1)→PErr k co a r n mv 1
 | tally {co:Nat} {a r n:Int} {mv:List Int}:k.ok=true→co<32→(k.s0≤a∧a≤k.s1)→(k.r0≤r∧r≤k.r1)→(k.l0≤n∧n≤k.l1)→mv.length≠(placesTo co 7).length→PErr k co a r n mv 2
 | move {co:Nat} {a r n:Int} {mv:List Int} {j:Nat}:k.ok=true→co<32→(k.s0≤a∧a≤k.s1)→(k.r0≤r∧r≤k.r1)→(k.l0≤n∧n≤k.l1)→mv.length=(placesTo co 7).length→j<mv.length→(∀i,i<j→k.m0≤mv[i]?.getD 0∧mv[i]?.getD 0≤k.m1)→¬(k.m0≤mv[j]?.getD 0∧mv[j]?.getD 0≤k.m1)→PErr k co a r n mv 1
theorem firstBad {p:Nat→Prop} [DecidablePred p]:∀n:Nat,(∀i,i<n→p i)∨∃j,j<n∧(∀i,i<j→p i)∧¬p j
 | 0=> .inl fun i h=> absurd h (Nat.not_lt_zero i)
 | n + 1 => by
   rcases firstBad n (p:=p) with h|⟨j,h1,h2,h3⟩
   · by_cases hn:p n
     · exact .inl fun i hi=> by
         rcases Nat.lt_succ_iff_lt_or_eq.1 hi with h'|rfl
         · exact h i h'
         · exact hn
     · exact .inr ⟨n,Nat.lt_succ_self n,h,hn⟩
   · exact .inr ⟨j,by omega,h2,h3⟩
section
variable(M:Md Tryz.prog)(H:View)
end
end Go.Proofs.YtpdaenfglbgfkaaGreatDoor
end
