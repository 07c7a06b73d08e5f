/-
 Texts of the proofs over baudot/dial.
-/
import Derived.Test.YtcagolloalgfiaaGreatDoorW04
import Derived.OpenShut
namespace Go.Proofs.YtcagolloalgfiaaGreatDoor.Sg
open Go.RL Go.Proofs.Tryz
set_option maxRecDepth 10000
set_option maxHeartbeats 4000000
def notRt(rt:Nat)(x:Nat×List Int):Bool:=x.1 !=rt
def Stg.wrong(s:Stg)(rt:Nat):Option (Int×Int×Int×List Int):=(s.all.find? (notRt rt)).map fun x=> (s.send,s.read,s.lean,x.2)
def Lk.wrong(k:Lk)(code:Nat):Option (Int×Int×Int×List Int):=(k.stgs code).findSome? fun s=> s.wrong (rightN code)
theorem Stg.leaves_len(s:Stg):∀(d i v:Nat) (mv:List Int) (x:Nat×List Int),x∈s.leaves d i v mv->x.2.length=mv.length+d
 | 0,_,_,mv,x,h=> by
  simp only[Stg.leaves,List.mem_singleton] at h;subst h;rfl
 | d+1,i,v,mv,x,h=> by
  unfold Stg.leaves at h;obtain⟨o,_,h2⟩:=List.mem_flatMap.1 h;have:=Stg.leaves_len s d (i+1) _ _ x h2;rw[this];simp
  omega
theorem Stg.leaves_lt(s:Stg):∀(d i v:Nat) (mv:List Int) (x:Nat×List Int),v<128->x∈s.leaves d i v mv->x.1<128
 | 0,_,_,mv,x,hv,h=> by
  simp only[Stg.leaves,List.mem_singleton] at h;subst h;exact hv
 | d+1,i,v,mv,x,hv,h=> by
  unfold Stg.leaves at h;obtain⟨o,h1,h2⟩:=List.mem_flatMap.1 h;have:=Stg.opts_in h1;exact Stg.leaves_lt s d (i+1) _ _ x (turned_lt v hv _ oM) h2
theorem Stg.all_len {s:Stg}{x:Nat×List Int}(h:x∈s.all):x.2.length=s.ps.length:=by
 have:=Stg.leaves_len s _ _ _ _ x h;simpa using this
def pastV(s r n:Int)(g:Gl 3 1):Value:=.agg ⟨[.int .i64 s,.int .i64 r,.int .i64 n,g.val]⟩
def PastQ(o:Option (Int×Int×Int×List Int))(H:View)(v:Value)(H':View):Prop:=
 match o with
 | none=> v=.tuple ⟨[.agg ⟨[.int .i64 0,.int .i64 0,.int .i64 0,.slice none 0 0]⟩,.bool false]⟩
 | some (s,r,n,mv)=> ∃g:Gl 3 1,v=.tuple ⟨[pastV s r n g,.bool true]⟩/\g.l=intsL mv/\∀y∈g.bl,H' y.1=some y.2/\H y.1=none
section
variable(M:Md prog)(H:View)
theorem wrong_c(k:Lk)(hk:k.Fine)(code eb ec:Nat)(hc:code<32)(hE:Edg H (placesTo code 7) eb):
  CallT M 139 #[k.val,.agg ⟨[.int .i64 code,.slice (some ⟨eb,0,none⟩) (placesTo code 7).length ec]⟩] H (fun v H'=> H.le H'/\PastQ (k.wrong code) H v H'):=by
 refine .en func139 ntmps139 fun St c cs hK=> ?_;refine U2 ?_;refine .bo fun b2=> ?_;refine .bo fun b3=> ?_;refine .al fun b4=> ?_;refine .al fun b5=> ?_;refine U4 ?_;refine .cl (fun H hs=> right_c M H code _ hc) ?_;refine .al fun b6=> ?_;refine U7 ?_;refine To.callF rfl rfl rfl rfl rfl rfl dE (FnT.h (settings_c M H k code (placesTo code 7).length eb ec)) (fun w H1 hw=> ?_);obtain⟨hle1,c2,c5,c3,rfl,hcap⟩:=hw;refine U2 ?_;have hE1:=hE.le hle1;refine Tc.db (R':= [(14,setF c2 c5 c3),(4,.pointer (some ⟨b4,0,none⟩)),(5,.pointer (some ⟨b5,0,none⟩)),(6,.pointer (some ⟨b6,0,none⟩))]) (L':= [(b6,true,.cells ⟨[.int .u8 (rightN code:Nat)]⟩ 183 (0,0)),(b5,true,.cells ⟨[.bool false]⟩ 4 (0,0)),(b4,true,.cells ⟨[.int .i64 0,.int .i64 0,.int .i64 0,.slice none 0 0]⟩ 121 (0,0))]) ?_;refine Tc.rangeL (A:= []) (xs:=k.stgs code) (ts:= [15]) (fun rest H₁ L₁=> L₁= [(b6,true,.cells ⟨[.int .u8 (rightN code:Nat)]⟩ 183 (0,0)),(b5,true,.cells ⟨[.bool false]⟩ 4 (0,0)),(b4,true,.cells ⟨[.int .i64 0,.int .i64 0,.int .i64 0,.slice none 0 0]⟩ 121 (0,0))]/\H1.le H₁/\(rest.findSome? fun s=> s.wrong (rightN code))=k.wrong code)
   (fun j H₁ L₁=> j=.ret/\H1.le H₁/\∃(s r n:Int) (mv:List Int) (g:Gl 3 1),k.wrong code=some (s,r,n,mv)/\g.l=intsL mv/\(∀y∈g.bl,H₁ y.1=some y.2/\H y.1=none)/\L₁= [(b6,true,.cells ⟨[.int .u8 (rightN code:Nat)]⟩ 183 (0,0)),(b5,true,.cells ⟨[.bool true]⟩ 4 (0,0)),(b4,true,.cells ⟨[.int .i64 s,.int .i64 r,.int .i64 n,Gl.val g]⟩ 121 (0,0))])
   rfl rfl rfl rfl (fun H h=> settings_it M H k code eb ec c2 c5 c3 hk.bounds h) (CapS.le) (fun rest H₁ L₁ ⟨_,h,_⟩=> hcap.le _ _ h) rfl (fun _ _=> rfl) ⟨rfl,View.le_refl _,rfl⟩ ?_ ?_ ?_
 ·rintro r s rest mb l tmps asg bdy H₁ _ hs ⟨rfl,hle2,hfs⟩ Q1 St1 cc1 cs1 hK1 q1 q1';obtain⟨hok,hps⟩:=hk.stg hc hs;have hE2:EdgesAt H₁ s eb:=by
   have:=hE1.le hle2;rw[<-hps] at this;exact this
  have hcapE:∀H H':View,H.le H'->EdgesAt H s eb->EdgesAt H' s eb:=fun H H' hle he=> Edg.le he hle;refine U ?_;refine .al fun b7=> ?_;refine U2 ?_;refine Tc.beginRound (i:=2) rfl rfl rfl ?_;refine U7 ?_;refine Tc.perm (List.Perm.swap _ _ _) ?_;refine Tc.rangeLIn (A:= [(mb,true,.map #[] 0)]) (i:=2) (xs:=s.all) (ts:= [18,19]) (fun rest2 H₂ L₂=> L₂= [(b7,true,.cells ⟨(s.val eb ec mb).cells.toList⟩ 268 (0,0)),(l,true,.loop { Loop.fresh 139 tmps [15].toArray asg bdy r with state:=.busy }),(r,true,.deferred (some [])),(b6,true,.cells ⟨[.int .u8 (rightN code:Nat)]⟩ 183 (0,0)),(b5,true,.cells ⟨[.bool false]⟩ 4 (0,0)),(b4,true,.cells ⟨[.int .i64 0,.int .i64 0,.int .i64 0,.slice none 0 0]⟩ 121 (0,0))]/\H1.le H₂/\rest2.find? (notRt (rightN code))=s.all.find? (notRt (rightN code)))
   (fun j H₂ L₂=> j=.ret/\H1.le H₂/\∃(s' r' n:Int) (mv:List Int) (g:Gl 3 1),k.wrong code=some (s',r',n,mv)/\g.l=intsL mv/\(∀y∈g.bl,H₂ y.1=some y.2/\H y.1=none)/\L₂= [(b7,true,.cells ⟨(s.val eb ec mb).cells.toList⟩ 268 (0,0)),(l,true,.loop { Loop.fresh 139 tmps [15].toArray asg bdy r with state:=.busy }),(r,true,.deferred (some [])),(b6,true,.cells ⟨[.int .u8 (rightN code:Nat)]⟩ 183 (0,0)),(b5,true,.cells ⟨[.bool true]⟩ 4 (0,0)),(b4,true,.cells ⟨[.int .i64 s',.int .i64 r',.int .i64 n,Gl.val g]⟩ 121 (0,0))])
   rfl rfl rfl rfl rfl (fun H h=> views_it M H s hok eb ec mb) hcapE (fun rest H₁ L₁ ⟨_,h,_⟩=> ?_) rfl (fun _ _=> rfl) ⟨rfl,hle2,rfl⟩ ?_ ?_ ?_
  ·have h':=hE1.le h;rw[<-hps] at h';exact h'
  ·rintro x rest2 vb l2 tmps2 asg2 bdy2 H₂ _ hx ⟨rfl,hle3,hfd⟩ Q2 St2 cc2 cs2 hK2 q2 q2';have hxl:=Stg.all_len hx;have hx1:x.1<128:=Stg.leaves_lt s _ _ _ _ x dE hx;have h6:=hok.ps6;refine U7 ?_;refine Tc.beginRound (i:=1) rfl rfl rfl ?_;by_cases cx:x.1=rightN code
   ·have hfd':rest2.find? (notRt (rightN code))=s.all.find? (notRt (rightN code)):=by
     rw[<-hfd,List.find?_cons_of_neg (by simp[notRt,cx])]
    refine U10 ?_;refine Tc.leaveRound hK2 (i:=1) rfl (.inl ⟨rfl,rfl⟩) (fun H' hs'=> q2 H' _ _ hs' ⟨rfl,hle3,hfd'⟩)
   ·have hfd':s.all.find? (notRt (rightN code))=some x:=by
     rw[<-hfd,List.find?_cons_of_pos (by simp[notRt,cx])]
    have hw:k.wrong code=some (s.send,s.read,s.lean,x.2):=by
     rw[<-hfs];have h1:s.wrong (rightN code)=some (s.send,s.read,s.lean,x.2):=by unfold Stg.wrong;rw[hfd'];rfl
     rw[List.findSome?_cons,h1]
    have hpad:((padC s.ps.length x.2).drop 0).take (s.ps.length*1)=intsL x.2:=by
     rw[List.drop_zero,Nat.mul_one];unfold padC;rw[List.take_left' (by rw[intsL_len];exact hxl)]
    have hpl:0+s.ps.length*1<=(padC s.ps.length x.2).length:=by
     unfold padC;rw[List.length_append,intsL_len,hxl];simp
    have hsg:(intsL x.2).all single=true:=by
     rw[List.all_eq_true];intro y hy;obtain⟨z,_,rfl⟩:=List.mem_map.1 hy;rfl
    have hsrc:∀H:View,H vb=some (true,.cells ⟨padC s.ps.length x.2⟩ 3 (0,0))->SrcAt H 1 (.slice (some ⟨vb,0,none⟩) s.ps.length 7) s.ps.length (intsL x.2):=fun _ h=> hpad▸SrcAt.of h hpl;refine U9 ?_;refine Tc.dr [9,10] [6,7] mixed rfl ?_;refine V7 0 ?_;refine .ea 7 rfl (Or.callNew Gl.val Gl.bl (fun g:Gl 3 1=> g.l=intsL x.2) rfl rfl rfl rfl rfl dE gl_nodup (fun H hs=> .h (CallT.mono (clone_c M H _ s.ps.length 7 (intsL x.2) oM (hsrc H (hs.get (i:=0) rfl)) hsg) (by rintro v H' ⟨h1,g,h2,h3,h4⟩;exact⟨h1,g,h2,h3,h4⟩))) (fun g hgl=> ⟨S2.mk sL (.inr sL),?_⟩));refine .nn 8 ?_;refine .e 9 7 ?_;refine .e 10 6 ?_;refine .dn ?_;refine Tc.lift (L₂:= [_,_,_,_,_,_,_,_]) rfl (fun Hx hx=> ?_);refine Tc.leaveRound hK2 (i:=1) rfl (.inr (.inl ⟨_,rfl,rfl⟩)) (fun H' hs'=> q2' H' _ _ _ (hs'.less sL) ⟨rfl,View.le_trans hle3 hx.base,s.send,s.read,s.lean,x.2,g,hw,hgl,fun y hy=> ⟨hx.at_ y hy,?_⟩,rfl⟩);have h1:=hx.out y hy;cases h2:H y.1 with
    | none=> rfl
    | some z=> rw[hle3 _ _ (hle1 _ _ h2)] at h1;cases h1
  ·rintro H₂ _ ⟨rfl,hle3,hnf⟩;have hfs':(rest.findSome? fun s=> s.wrong (rightN code))=k.wrong code:=by
    rw[<-hfs,List.findSome?_cons];have h1:s.wrong (rightN code)=none:=by unfold Stg.wrong;rw[<-hnf];rfl
    rw[h1]
   refine U2 ?_;refine Tc.leaveRound hK1 (i:=1) rfl (.inl ⟨rfl,rfl⟩) (fun H' hs'=> q1 H' _ _ (hs'.less sL) ⟨rfl,hle3,hfs'⟩)
  ·rintro j H₂ _ ⟨rfl,hle3,s',r',n',mv,g,hw,hg,hgb,rfl⟩;refine Tc.leaveRound hK1 (i:=1) rfl (.inr (.inl ⟨_,rfl,rfl⟩)) (fun H' hs'=> q1' H' _ _ _ (hs'.less sL) ⟨rfl,hle3,s',r',n',mv,g,hw,hg,hgb,rfl⟩)
 ·rintro r H₁ _ ⟨rfl,hle2,hfs⟩;have hnone:k.wrong code=none:=by rw[<-hfs];rfl
  refine U7 ?_;refine Tc.retD (E:=en) (i:=0) hK func139 results139 (vs:= [_,_]) rfl (by refine⟨⟨3,_,_,_,_,_,_,_,rfl,rfl,rfl,rfl⟩,?_⟩;refine⟨⟨2,_,_,_,_,_,_,_,rfl,rfl,rfl,rfl⟩,?_⟩;exact trivial) ?_;exact fun H' hs=> ⟨View.le_trans hle1 (View.le_trans hle2 hs.base),by rw[hnone];rfl⟩
 ·rintro r j H₁ _ ⟨rfl,hle2,s,r',n,mv,g,hw,hg,hgb,rfl⟩;refine Tc.retD (E:=en) (i:=0) hK func139 results139 (vs:= [_,_]) rfl (by refine⟨⟨3,_,_,_,_,_,_,_,rfl,rfl,rfl,rfl⟩,?_⟩;refine⟨⟨2,_,_,_,_,_,_,_,rfl,rfl,rfl,rfl⟩,?_⟩;exact trivial) ?_;exact fun H' hs=> ⟨View.le_trans hle1 (View.le_trans hle2 hs.base),by rw[hw];exact⟨g,rfl,hg,fun y hy=> ⟨hs.base _ _ (hgb y hy).1,(hgb y hy).2⟩⟩⟩
end
def letN(code:Nat)(x:Nat×Nat×List Value):Value:=.agg ⟨[.int .i64 code,.slice (some ⟨x.1,0,none⟩) (placesTo code 7).length x.2.1]⟩
def letB(code:Nat)(x:Nat×Nat×List Value):Bl:= [(x.1,true,.cells ⟨edgeCells (placesTo code 7)++x.2.2⟩ 243 (0,0))]
theorem letB_nodup(code:Nat)(x:Nat×Nat×List Value):((letB code x).map (·.1)).Nodup:=by simp[letB]
def edgeCellsF(s:Nat)(ps:List Nat):List Value:=((ps.zipIdx s).map fun x=> [Value.int .i64 (x.1:Nat),Value.int .i64 (x.2:Nat)]).flatten
theorem edgeCellsF_get:∀(ps:List Nat) (s i:Nat),i<ps.length->((edgeCellsF s ps).drop (i*2)).take 2= [.int .i64 (ps[i]?.getD 0:Nat),.int .i64 (s+i:Nat)]
 | [],_,_,h=> by simp at h
 | p ::ps,s,i,h=> by
  have e:edgeCellsF s (p::ps)= [.int .i64 (p:Nat),.int .i64 (s:Nat)]++edgeCellsF (s+1) ps:=by simp[edgeCellsF]
  rw[e];cases i with
  | zero=> simp
  | succ i=>
   rw[show(i+1)*2=i*2+2 by omega,List.drop_append];simp only[List.length_cons,List.length_nil];rw[show i*2+2-(0+1+1)=i*2 by omega,List.drop_eq_nil_of_le (by simp),List.nil_append,edgeCellsF_get ps (s+1) i (by simpa using h)];simp
   omega
theorem edgeCells_len(ps:List Nat):(edgeCells ps).length=ps.length*2:=by
 have:∀(ps:List Nat) (s:Nat),(edgeCellsF s ps).length=ps.length*2:=by
  intro ps;induction ps with
  | nil=> intro s;rfl
  | cons p ps ih=>
   intro s;have e:edgeCellsF s (p::ps)= [.int .i64 (p:Nat),.int .i64 (s:Nat)]++edgeCellsF (s+1) ps:=by simp[edgeCellsF]
   rw[e,List.length_append,ih];simp
   omega
 exact this ps 0
theorem edg_of {H:View}{code:Nat}{x:Nat×Nat×List Value}(h:∀y∈letB code x,H y.1=some y.2):Edg H (placesTo code 7) x.1:=by
 refine⟨_,_,_,_,h (x.1,true,.cells ⟨edgeCells (placesTo code 7)++x.2.2⟩ 243 (0,0)) (by simp[letB]),fun i hi=> ?_⟩;have hl:=edgeCells_len (placesTo code 7);have hle:Nat.ble (0+i*2+2) (edgeCells (placesTo code 7)++x.2.2).length=true:=Nat.ble_eq_true_of_le (by rw[List.length_append];omega);unfold ldL;simp only[hle];have h1:=edgeCellsF_get (placesTo code 7) 0 i hi
 congr 3
 rw[Nat.zero_add,List.drop_append_of_le_length oM,List.take_append_of_le_length (by rw[List.length_drop];omega)];have h2:edgeCellsF 0 (placesTo code 7)=edgeCells (placesTo code 7):=rfl;rw[<-h2,h1,Nat.zero_add]
section
variable(M:Md prog)(H:View)
theorem gl_some {e:TypeId}{sz:Nat}(g:Gl e sz)(h:0<g.n):∃b,g.blk=some b:=by
 cases hb:g.blk with
 | some b=> exact⟨b,rfl⟩
 | none=>
  have h1:=g.h0 hb;have h2:=g.hc;omega
theorem letterOf_n(code:Nat)(h1:code<32):CallT M 140 #[.int .i64 code] H (fun v H'=> H.le H'/\∃x,v=letN code x/\True/\∀y∈letB code x,H' y.1=some y.2/\H y.1=none):=
 CallT.mono (letterOf_c M H code h1) (by
  rintro v H' ⟨h2,g,rfl,h3,h4,h5⟩;obtain⟨b,hb⟩:=gl_some g (by rw[h3];exact(places_in code h1).1);refine⟨h2,(b,g.cap,g.junk),?_,trivial,fun y hy=> h5 y ?_⟩
  ·unfold letN Gl.val;rw[hb,h3];rfl
  ·unfold Gl.bl;rw[hb,h4];exact hy)
theorem sure_c(k:Lk)(hk:k.Fine)(code:Nat)(hc:code<32):CallT M 92 #[k.val,.int .i64 code] H (fun v H'=> H.le H'/\v=.bool (k.wrong code).isNone):=by
 refine .en func92 ntmps92 fun St c cs hK=> ?_;cases hw:k.wrong code with
 | none=>
  refine U2 ?_;refine .bo fun b2=> ?_;refine U3 ?_;refine Tc.via (fun R' L'=> AllIn [(6,.bool false)] R') ?_ (fun fin=> ?_)
  ·intro R' L' hR;refine Tc.dropB (R':= [(6,.bool false)]) (L':= []) ?_ hR (List.nil_sublist _);refine U6 ?_;refine .rt hK func92 results92 [_] ?_;exact fun H' hs=> ⟨hs.base,by rw[hw];rfl⟩
  ·refine Tc.dr [8] [] mixed rfl ?_;refine V2 0 ?_;refine Ta.each [2,7] kR rfl ⟨TaOp.mk rfl rfl rfl (Or.callNew (letN code) (letB code) (fun _=> True) rfl rfl rfl rfl rfl dE (letB_nodup code) (fun H hs=> .h (letterOf_n M H code hc)) (fun x hx=> ⟨S2.mk sL (.inr sL),?_⟩)),TaOp.mk rfl rfl rfl (.al (zz:=fun nb=> ⟨S2.mk sL (.inr sL),?_⟩)),trivial⟩
   ·refine Ta.each [3,7] kR rfl ⟨TaOp.mk rfl rfl rfl (Or.callNew (σ:=Unit) (fun _=> .tuple ⟨[.agg ⟨[.int .i64 0,.int .i64 0,.int .i64 0,.slice none 0 0]⟩,.bool false]⟩) (fun _=> []) (fun _=> True) rfl rfl rfl rfl rfl dE (fun _=> by simp) (fun H hs=> .h (CallT.mono (wrong_c M H k hk code x.1 x.2.1 hc (edg_of fun y hy=> hs.at_ y (by simp[hy]))) (by rintro v H' ⟨h1,h2⟩;rw[hw] at h2;exact⟨h1,(),h2,trivial,by simp⟩))) (fun _ _=> ⟨S2.mk sL (.inr sL),?_⟩)),TaOp.mk rfl rfl rfl (.al (zz:=fun nb=> ⟨S2.mk sL (.inr sL),?_⟩)),trivial⟩
    ·refine V2 4 ?_;refine .nw 6 ?_;refine .ea 7 rfl (.al (zz:=fun nb=> ⟨S2.mk sL (.inr sL),?_⟩));refine .e 8 0 ?_;refine .nw 9 ?_;refine .dn ?_;exact fin _ _ ⟨rfl,trivial⟩
    ·refine .ea 3 rfl (Or.callNew (σ:=Unit) (fun _=> .tuple ⟨[.agg ⟨[.int .i64 0,.int .i64 0,.int .i64 0,.slice none 0 0]⟩,.bool false]⟩) (fun _=> []) (fun _=> True) rfl rfl rfl rfl rfl dE (fun _=> by simp) (fun H hs=> .h (CallT.mono (wrong_c M H k hk code x.1 x.2.1 hc (edg_of fun y hy=> hs.at_ y (by simp[hy]))) (by rintro v H' ⟨h1,h2⟩;rw[hw] at h2;exact⟨h1,(),h2,trivial,by simp⟩))) (fun _ _=> ⟨S2.mk sL (.inr sL),?_⟩));refine V2 4 ?_;refine .nw 6 ?_;refine .e 8 0 ?_;refine .nw 9 ?_;refine .dn ?_;exact fin _ _ ⟨rfl,trivial⟩
   ·refine .ea 2 rfl (Or.callNew (letN code) (letB code) (fun _=> True) rfl rfl rfl rfl rfl dE (letB_nodup code) (fun H hs=> .h (letterOf_n M H code hc)) (fun x hx=> ⟨S2.mk sL (.inr sL),?_⟩));refine .ea 3 rfl (Or.callNew (σ:=Unit) (fun _=> .tuple ⟨[.agg ⟨[.int .i64 0,.int .i64 0,.int .i64 0,.slice none 0 0]⟩,.bool false]⟩) (fun _=> []) (fun _=> True) rfl rfl rfl rfl rfl dE (fun _=> by simp) (fun H hs=> .h (CallT.mono (wrong_c M H k hk code x.1 x.2.1 hc (edg_of fun y hy=> hs.at_ y (by simp[hy]))) (by rintro v H' ⟨h1,h2⟩;rw[hw] at h2;exact⟨h1,(),h2,trivial,by simp⟩))) (fun _ _=> ⟨S2.mk sL (.inr sL),?_⟩));refine V2 4 ?_;refine .nw 6 ?_;refine .e 8 0 ?_;refine .nw 9 ?_;refine .dn ?_;exact fin _ _ ⟨rfl,trivial⟩
 | some w=>
  obtain⟨s,r,n,mv⟩:=w;refine U2 ?_;refine .bo fun b2=> ?_;refine U3 ?_;refine Tc.via (fun R' L'=> AllIn [(6,.bool true)] R') ?_ (fun fin=> ?_)
  ·intro R' L' hR;refine Tc.dropB (R':= [(6,.bool true)]) (L':= []) ?_ hR (List.nil_sublist _);refine U6 ?_;refine .rt hK func92 results92 [_] ?_;exact fun H' hs=> ⟨hs.base,by rw[hw];rfl⟩
  ·refine Tc.dr [8] [] mixed rfl ?_;refine V2 0 ?_;refine Ta.each [2,7] kR rfl ⟨TaOp.mk rfl rfl rfl (Or.callNew (letN code) (letB code) (fun _=> True) rfl rfl rfl rfl rfl dE (letB_nodup code) (fun H hs=> .h (letterOf_n M H code hc)) (fun x hx=> ⟨S2.mk sL (.inr sL),?_⟩)),TaOp.mk rfl rfl rfl (.al (zz:=fun nb=> ⟨S2.mk sL (.inr sL),?_⟩)),trivial⟩
   ·refine Ta.each [3,7] kR rfl ⟨TaOp.mk rfl rfl rfl (Or.callNew (fun g:Gl 3 1=> .tuple ⟨[pastV s r n g,.bool true]⟩) Gl.bl (fun _=> True) rfl rfl rfl rfl rfl dE gl_nodup (fun H hs=> .h (CallT.mono (wrong_c M H k hk code x.1 x.2.1 hc (edg_of fun y hy=> hs.at_ y (by simp[hy]))) (by rintro v H' ⟨h1,h2⟩;rw[hw] at h2;obtain⟨g,h3,_,h4⟩:=h2;exact⟨h1,g,h3,trivial,h4⟩))) (fun g _=> ⟨S2.mk sL (.inr sL),?_⟩)),TaOp.mk rfl rfl rfl (.al (zz:=fun nb=> ⟨S2.mk sL (.inr sL),?_⟩)),trivial⟩
    ·refine V2 4 ?_;refine .nw 6 ?_;refine .ea 7 rfl (.al (zz:=fun nb=> ⟨S2.mk sL (.inr sL),?_⟩));refine .e 8 0 ?_;refine .nw 9 ?_;refine .dn ?_;exact fin _ _ ⟨rfl,trivial⟩
    ·refine .ea 3 rfl (Or.callNew (fun g:Gl 3 1=> .tuple ⟨[pastV s r n g,.bool true]⟩) Gl.bl (fun _=> True) rfl rfl rfl rfl rfl dE gl_nodup (fun H hs=> .h (CallT.mono (wrong_c M H k hk code x.1 x.2.1 hc (edg_of fun y hy=> hs.at_ y (by simp[hy]))) (by rintro v H' ⟨h1,h2⟩;rw[hw] at h2;obtain⟨g,h3,_,h4⟩:=h2;exact⟨h1,g,h3,trivial,h4⟩))) (fun g _=> ⟨S2.mk sL (.inr sL),?_⟩));refine V2 4 ?_;refine .nw 6 ?_;refine .e 8 0 ?_;refine .nw 9 ?_;refine .dn ?_;exact fin _ _ ⟨rfl,trivial⟩
   ·refine .ea 2 rfl (Or.callNew (letN code) (letB code) (fun _=> True) rfl rfl rfl rfl rfl dE (letB_nodup code) (fun H hs=> .h (letterOf_n M H code hc)) (fun x hx=> ⟨S2.mk sL (.inr sL),?_⟩));refine .ea 3 rfl (Or.callNew (fun g:Gl 3 1=> .tuple ⟨[pastV s r n g,.bool true]⟩) Gl.bl (fun _=> True) rfl rfl rfl rfl rfl dE gl_nodup (fun H hs=> .h (CallT.mono (wrong_c M H k hk code x.1 x.2.1 hc (edg_of fun y hy=> hs.at_ y (by simp[hy]))) (by rintro v H' ⟨h1,h2⟩;rw[hw] at h2;obtain⟨g,h3,_,h4⟩:=h2;exact⟨h1,g,h3,trivial,h4⟩))) (fun g _=> ⟨S2.mk sL (.inr sL),?_⟩));refine V2 4 ?_;refine .nw 6 ?_;refine .e 8 0 ?_;refine .nw 9 ?_;refine .dn ?_;exact fin _ _ ⟨rfl,trivial⟩
end
def Lk.sureOf(k:Lk)(c:Nat):Bool:=(k.wrong c).isNone
def ToldQ(l:List Value)(H:View)(v:Value)(H':View):Prop:=H.le H'/\∃g:Gl 3 1,v=.tuple ⟨[g.val,.int .i64 0]⟩/\g.l=l/\∀y∈g.bl,H' y.1=some y.2/\H y.1=none
section
variable(M:Md prog)(H:View)
theorem sure_asks(k:Lk)(hk:k.Fine):Asks M H (.func (.func 92) #[k.val] #[]) 32 k.sureOf:=fun i hi H' _=>
 FnT.of (first:= [k.val]) (captured:= []) ca92 rfl (sure_c M H' k hk i hi)
theorem keep_n(many:Nat)(fv:Value)(p:Nat->Bool)(hm:many<=100000)(hp:Asks M H fv many p):CallT M 91 #[.int .i64 many,fv] H (fun v H'=> H.le H'/\∃g:Gl 3 1,v=g.val/\g.l=keepTo p many/\∀x∈g.bl,H' x.1=some x.2/\H x.1=none):=keep_c M H many fv p hm hp
theorem Sure_c(k:Lk)(hG:Glob H)(hk:k.ok=true):CallT M 52 #[k.val] H (ToldQ (keepTo k.sureOf 32) H):=by
 refine .en func52 ntmps52 fun St c cs hK=> ?_;refine U2 ?_;refine .bo fun b1=> ?_;refine U7 ?_;refine .cl (fun H hs=> checkLink_good M H k (glob_le hG hs.base) hk) ?_;refine U14 ?_;refine .e (Or.callNew Gl.val Gl.bl (fun g:Gl 3 1=> g.l=keepTo k.sureOf 32) rfl rfl rfl rfl rfl dE gl_nodup (fun H hs=> .h (keep_n M H 32 _ k.sureOf dE (sure_asks M H k (Lk.fine hk)))) (fun g hg=> ?_));refine U3 ?_;refine .rt hK func52 results52 [_,_] ?_;exact fun H' hs=> ⟨hs.base,g,rfl,hg,fun y hy=> ⟨hs.at_ y (by simp[hy]),hs.out y (by simp[hy])⟩⟩
end
def Nums(H:View)(A:Option Addr)(l:List Int):Prop:=
 l= []\/∃ab ao f gs gt gz,A=some ⟨ab,ao,none⟩/\H ab=some (f,.cells ⟨gs⟩ gt gz)/\∀j:Nat,j<l.length->ldL false 1 gs (ao+(j:Int).toNat*1)=some (.int .i64 (l[j]?.getD 0))
theorem Nums.le {H H':View}{A:Option Addr}{l:List Int}(h:Nums H A l)(k:H.le H'):Nums H' A l:=by
 rcases h with h|⟨ab,ao,f,gs,gt,gz,h1,h2,h3⟩
 ·exact .inl h
 ·exact .inr ⟨ab,ao,f,gs,gt,gz,h1,k _ _ h2,h3⟩
theorem Nums.of {H:View}{g:Gl 3 1}{l:List Int}(hl:g.l=intsL l)(h:∀y∈g.bl,H y.1=some y.2):g.n=l.length/\Nums H (g.blk.map fun b=> ⟨b,0,none⟩) l:=by
 have hn:g.n=l.length:=by
  have:=g.hl;rw[hl,intsL_len] at this;omega
 refine⟨hn,?_⟩;obtain⟨_|b,n,cap,gl,gj,h1,h2,h3,h4⟩:=g
 ·have:=h4 rfl;simp only at hn h2;refine .inl (List.eq_nil_of_length_eq_zero oM)
 ·refine .inr ⟨b,0,true,gl++gj,3,(0,0),rfl,h (b,true,.cells ⟨gl++gj⟩ 3 (0,0)) (by simp[Gl.bl]),fun j hj=> ?_⟩;simp only at hl;subst hl;show(intsL l++gj)[0+(j:Int).toNat*1]? =_;rw[Nat.zero_add,Nat.mul_one,Int.toNat_natCast,List.getElem?_append_left (by rw[intsL_len];exact hj)];unfold intsL;rw[List.getElem?_map,List.getElem?_eq_getElem hj];rfl
def keepI(p:Nat->Bool)(k:Nat):List Int:=((List.range k).filter p).map fun i:Nat=> (i:Int)
section
variable(M:Md prog)(H:View)
theorem Inside_c(a b low high:Int):CallT M 62 #[bandV a b,.int .i64 low,.int .i64 high] H (fun v H'=> H.le H'/\v=.bool (decide (a<=b/\low<=a/\b<=high))):=by
 refine .en func62 ntmps62 fun St c cs hK=> ?_;by_cases c1:a<=b
 all_goals by_cases c2:low<=a
 all_goals by_cases c3:b<=high
 all_goals (
  refine U2 ?_;refine .bo fun b3=> ?_;refine U8 ?_;refine .i ?_ (z:=by first|exact leq_t oM|exact leq_f oM);refine U ?_;first|(refine .sk ?_)|(refine .x .fa ?_)
  first|(refine .sk ?_)|((refine .x (.ld 0) ?_))
  first|(refine .sk ?_)|(refine .m ?_)
  first|(refine .sk ?_)|(refine .x (.it (zz:=(by first|exact geq_t oM|exact geq_f oM))) ?_)
  refine U2 ?_;first|(refine .sk ?_)|(refine .x .fa ?_)
  first|(refine .sk ?_)|((refine .x (.ld 0) ?_))
  first|(refine .sk ?_)|(refine .m ?_)
  first|(refine .sk ?_)|(refine .x (.it (zz:=(by first|exact leq_t oM|exact leq_f oM))) ?_)
  refine U3 ?_;refine .rt hK func62 results62 [_] ?_;exact fun H' hs=> ⟨hs.base,by simp[c1,c2,c3];rfl⟩)
theorem refPaces_c(a b:Int):CallT M 25 #[bandV a b] H (fun v H'=> H.le H'/\v=.bool (paceOk a b)):=by
 refine .en func25 ntmps25 fun St c cs hK=> ?_;by_cases c1:a<=b/\1<=a/\b<=40
 ·by_cases c2:b-a<3
  ·have e:paceOk a b=true:=decide_eq_true oM;refine U2 ?_;refine .bo fun b1=> ?_;refine U5 ?_;refine .cl (fun H hs=> CallT.is (.bool true) (by rewrite [decide_eq_true c1];rfl) (Inside_c M H a b 1 40)) ?_;refine U10 ?_;refine .rt hK func25 results25 [_] ?_;exact fun H' hs=> ⟨hs.base,by rw[e];rfl⟩
  ·have e:paceOk a b=false:=decide_eq_false oM;refine U2 ?_;refine .bo fun b1=> ?_;refine U5 ?_;refine .cl (fun H hs=> CallT.is (.bool true) (by rewrite [decide_eq_true c1];rfl) (Inside_c M H a b 1 40)) ?_;refine U10 ?_;refine .rt hK func25 results25 [_] ?_;exact fun H' hs=> ⟨hs.base,by rw[e];rfl⟩
 ·have e:paceOk a b=false:=decide_eq_false oM;refine U2 ?_;refine .bo fun b1=> ?_;refine U5 ?_;refine .cl (fun H hs=> CallT.is (.bool false) (by rewrite [decide_eq_false c1];rfl) (Inside_c M H a b 1 40)) ?_;refine U10 ?_;refine .rt hK func25 results25 [_] ?_;exact fun H' hs=> ⟨hs.base,by rw[e];rfl⟩
theorem refLine_c(a b x y:Int):CallT M 26 #[.agg ⟨[.int .i64 a,.int .i64 b,.int .i64 x,.int .i64 y]⟩] H (fun v H'=> H.le H'/\v=.int .i64 (if leanOk a b&&moveOk x y then 0 else 1)):=by
 refine .en func26 ntmps26 fun St c cs hK=> ?_;by_cases c1:a<=b/\ -9<=a/\b<=9
 ·by_cases c2:b-a≥3
  ·have e:(leanOk a b&&moveOk x y)=false:=by unfold leanOk;rw[decide_eq_false oM];rfl
   refine U2 ?_;refine .bo fun b1=> ?_;refine U7 ?_;refine .cl (fun H hs=> CallT.is (.bool true) (by rewrite [decide_eq_true c1];rfl) (Inside_c M H a b (-9) 9)) ?_;refine U23 ?_;refine .rt hK func26 results26 [_] ?_;exact fun H' hs=> ⟨hs.base,by rw[e];rfl⟩
  ·by_cases c3:x<=y/\ -12<=x/\y<=12
   ·have e:(leanOk a b&&moveOk x y)=true:=by unfold leanOk moveOk;rw[decide_eq_true oM,decide_eq_true oM];rfl
    refine U2 ?_;refine .bo fun b1=> ?_;refine U7 ?_;refine .cl (fun H hs=> CallT.is (.bool true) (by rewrite [decide_eq_true c1];rfl) (Inside_c M H a b (-9) 9)) ?_;refine U14 ?_;refine .cl (fun H hs=> CallT.is (.bool true) (by rewrite [decide_eq_true c3];rfl) (Inside_c M H x y (-12) 12)) ?_;refine U9 ?_;refine .rt hK func26 results26 [_] ?_;exact fun H' hs=> ⟨hs.base,by rw[e];rfl⟩
   ·have e:(leanOk a b&&moveOk x y)=false:=by unfold moveOk;rw[decide_eq_false (p:= -12<=x/\x<=y/\y<=12/\y-x<25) oM];simp
    refine U2 ?_;refine .bo fun b1=> ?_;refine U7 ?_;refine .cl (fun H hs=> CallT.is (.bool true) (by rewrite [decide_eq_true c1];rfl) (Inside_c M H a b (-9) 9)) ?_;refine U14 ?_;refine .cl (fun H hs=> CallT.is (.bool false) (by rewrite [decide_eq_false c3];rfl) (Inside_c M H x y (-12) 12)) ?_;refine U8 ?_;refine .rt hK func26 results26 [_] ?_;exact fun H' hs=> ⟨hs.base,by rw[e];rfl⟩
 ·have e:(leanOk a b&&moveOk x y)=false:=by unfold leanOk;rw[decide_eq_false oM];rfl
  refine U2 ?_;refine .bo fun b1=> ?_;refine U7 ?_;refine .cl (fun H hs=> CallT.is (.bool false) (by rewrite [decide_eq_false c1];rfl) (Inside_c M H a b (-9) 9)) ?_;refine U23 ?_;refine .rt hK func26 results26 [_] ?_;exact fun H' hs=> ⟨hs.base,by rw[e];rfl⟩
theorem Lk.ok_eq(k:Lk):k.ok=(k.sends&&k.reads&&(k.leans&&k.moves)):=by
 simp[Lk.ok,allTo,Lk.chk,Bool.and_assoc]
theorem refLink_c(k:Lk):CallT M 5 #[k.val] H (fun v H'=> H.le H'/\v=.int .i64 (if k.ok then 0 else 1)):=by
 refine .en func5 ntmps5 fun St c cs hK=> ?_;cases h1:k.sends with
 | false=>
  have e:k.ok=false:=by rw[Lk.ok_eq,h1];rfl
  refine U2 ?_;refine .bo fun b1=> ?_;refine U7 ?_;refine .cl (fun H hs=> CallT.mono (refPaces_c M H k.s0 k.s1) (Q':=fun v H'=> H.le H'/\v=.bool false) (by rintro v H' ⟨h2,h3⟩;exact⟨h2,h3.trans (congrArg Value.bool h1)⟩)) ?_;refine U13 ?_;refine .rt hK func5 results5 [_] ?_;exact fun H' hs=> ⟨hs.base,by rw[e];rfl⟩
 | true=>
  cases h2:k.reads with
  | false=>
   have e:k.ok=false:=by rw[Lk.ok_eq,h1,h2];rfl
   refine U2 ?_;refine .bo fun b1=> ?_;refine U7 ?_;refine .cl (fun H hs=> CallT.mono (refPaces_c M H k.s0 k.s1) (Q':=fun v H'=> H.le H'/\v=.bool true) (by rintro v H' ⟨h2,h3⟩;exact⟨h2,h3.trans (congrArg Value.bool h1)⟩)) ?_;refine U4 ?_;refine .cl (fun H hs=> CallT.mono (refPaces_c M H k.r0 k.r1) (Q':=fun v H'=> H.le H'/\v=.bool false) (by rintro v H' ⟨h4,h3⟩;exact⟨h4,h3.trans (congrArg Value.bool h2)⟩)) ?_;refine U8 ?_;refine .rt hK func5 results5 [_] ?_;exact fun H' hs=> ⟨hs.base,by rw[e];rfl⟩
  | true=>
   have e:k.ok=(leanOk k.l0 k.l1&&moveOk k.m0 k.m1):=by rw[Lk.ok_eq,h1,h2];rfl
   refine U2 ?_;refine .bo fun b1=> ?_;refine U7 ?_;refine .cl (fun H hs=> CallT.mono (refPaces_c M H k.s0 k.s1) (Q':=fun v H'=> H.le H'/\v=.bool true) (by rintro v H' ⟨h2,h3⟩;exact⟨h2,h3.trans (congrArg Value.bool h1)⟩)) ?_;refine U4 ?_;refine .cl (fun H hs=> CallT.mono (refPaces_c M H k.r0 k.r1) (Q':=fun v H'=> H.le H'/\v=.bool true) (by rintro v H' ⟨h4,h3⟩;exact⟨h4,h3.trans (congrArg Value.bool h2)⟩)) ?_;refine U9 ?_;refine .cl (fun H hs=> refLine_c M H k.l0 k.l1 k.m0 k.m1) ?_;refine U2 ?_;refine .rt hK func5 results5 [_] ?_;exact fun H' hs=> ⟨hs.base,by rw[e];rfl⟩
end
section
variable(M:Md prog)(H:View)
theorem HasNum_c(A:Option Addr)(l:List Int)(n ca:Nat)(x:Int)(hn:n=l.length)(h6:n<=1000)(hA:Nums H A l):CallT M 56 #[.slice A n ca,.int .i64 x] H (fun v H'=> H.le H'/\v=.bool (decide (x∈l))):=by
 refine .en func56 ntmps56 fun St c cs hK=> ?_;refine U10 ?_;refine Tc.db (Tc.loopInv (σ:= { j:Nat//j<=n/\∀i,i<j->l[i]?.getD 0≠x }) (fun j=> ([(0,.slice A n ca),(1,.int .i64 x),(4,.bool false),(5,.int .i64 (j.1:Nat))],[])) (fun j=> n-j.1) ?_ ⟨0,oM,oM⟩);rintro⟨j,hj,hno⟩ ih;show Tc M St _ _ _ _ [(0,.slice A n ca),(1,.int .i64 x),(4,.bool false),(5,.int .i64 (j:Nat))] [] _ _;by_cases c1:j=n
 ·have hx:¬x∈l:=fun hm=> by
   obtain⟨i,hi,he⟩:=List.mem_iff_getElem.1 hm;have:=hno i oM;rw[List.getElem?_eq_getElem hi] at this;exact this he
  subst c1;refine U14 ?_;refine .rt hK func56 results56 [_] ?_;exact fun H' hs=> ⟨hs.base,by rw[decide_eq_false hx];rfl⟩
 ·have c2:j<n:=by omega
  rcases hA with hA|⟨a1,a2,a3,a4,a5,a6,rfl,a7,a8⟩
  ·rw[hA] at hn;simp at hn;omega
  have f1:=a8 j oM;by_cases c3:l[j]?.getD 0=x
  ·have hx:x∈l:=by
    rw[List.getElem?_eq_getElem (show j<l.length by omega)] at c3;rw[<-c3];exact List.getElem_mem _
   refine U26 ?_;refine .rt hK func56 results56 [_] ?_;exact fun H' hs=> ⟨hs.base,by rw[decide_eq_true hx];rfl⟩
  ·refine U29 ?_;exact Tc.db (ih ⟨j+1,oM,by intro i hi;rcases Nat.lt_succ_iff_lt_or_eq.1 hi with h|rfl;exact hno i h;exact c3⟩ (by simp only;omega))
end
end Go.Proofs.YtcagolloalgfiaaGreatDoor.Sg
section

end
namespace Go.Proofs.YtcagolloalgfiaaGreatDoor.Sg
open Go.RL Go.Proofs.Tryz
set_option maxRecDepth 10000
set_option maxHeartbeats 4000000
def Lk.seen(k:Lk)(c:Nat):Nat:=((List.range 128).filter (k.sees c)).length
def Lk.claim(k:Lk)(c:Nat):Int:=if k.sees c (rightN c) then(if k.seen c=1 then 1 else 0) else 2
section
variable(M:Md prog)(H:View)
theorem open_n(k:Lk)(code:Nat)(hG:Glob H)(hk:k.ok=true)(hc:code<32):CallT M 141 #[k.val,.int .i64 code] H (fun v H'=> H.le H'/\∃x:Nat×Nat×List Value,v=.tuple ⟨[k.val,letN code x,.int .i64 0]⟩/\True/\∀y∈letB code x,H' y.1=some y.2/\H y.1=none):=
 CallT.mono (open_yes M H k code hG hk hc) (by
  rintro v H' ⟨h2,g,rfl,⟨h3,h4⟩,h5⟩;obtain⟨b,hb⟩:=gl_some g (by rw[h3];exact(places_in code hc).1);refine⟨h2,(b,g.cap,g.junk),?_,trivial,fun y hy=> h5 y ?_⟩
  ·unfold letterV letN Gl.val;rw[hb,h3];rfl
  ·unfold Gl.bl;rw[hb,h4];exact hy)
end
def placesV(l:List Nat):List Value:=l.map fun p=> .int .i64 (p:Nat)
theorem gl_len {g:Gl 3 1}{l:List Nat}(h:g.l=placesV l):g.n=l.length:=by
 have:=g.hl;rw[h] at this;unfold placesV at this;rw[List.length_map] at this;omega
def Picks(H:View)(A:Option Addr)(l:List Int):Prop:=
 (∀x∈l,0<=x/\x<65536)/\(l= []\/∃ab ao f gs gt gz,A=some ⟨ab,ao,none⟩/\H ab=some (f,.cells ⟨gs⟩ gt gz)/\∀j:Nat,j<l.length->ldL false 1 gs (ao+(j:Int).toNat*1)=some (.int .u16 (l[j]?.getD 0)))
theorem Picks.le {H H':View}{A:Option Addr}{l:List Int}(h:Picks H A l)(k:H.le H'):Picks H' A l:=by
 obtain⟨h0,h⟩:=h;refine⟨h0,?_⟩;rcases h with h|⟨ab,ao,f,gs,gt,gz,h1,h2,h3⟩
 ·exact .inl h
 ·exact .inr ⟨ab,ao,f,gs,gt,gz,h1,k _ _ h2,h3⟩
theorem Picks.in {H:View}{A:Option Addr}{l:List Int}(h:Picks H A l)(j:Nat):0<=l[j]?.getD 0/\l[j]?.getD 0<65536:=by
 by_cases hj:j<l.length
 ·rw[List.getElem?_eq_getElem hj];exact h.1 _ (List.getElem_mem hj)
 ·rw[List.getElem?_eq_none oM];decide
def pickF(a b n:Int):Int:=a+n%(b-a+1)
theorem pick_in {a b n:Int}(h:a<=b):a<=pickF a b n/\pickF a b n<=b:=by
 unfold pickF;have h1:=Int.emod_nonneg n (show b-a+1≠0 by omega);have h2:=Int.emod_lt_of_pos n (show 0<b-a+1 by omega);omega
section
variable(M:Md prog)(H:View)
theorem Choice_c(A:Option Addr)(l:List Int)(n ca:Nat)(k:Int)(j:Nat)(hj:k=(j:Nat))(hn:n=l.length)(hA:Picks H A l):CallT M 100 #[.slice A n ca,.int .i64 k] H (fun v H'=> H.le H'/\v=.int .i64 (l[j]?.getD 0)):=by
 refine .en func100 ntmps100 fun St c cs hK=> ?_;have hx:=hA.in j;by_cases c1:j<n
 ·rcases hA.2 with hA|⟨a1,a2,a3,a4,a5,a6,rfl,a7,a8⟩
  ·rw[hA] at hn;simp at hn;omega
  have f1:ldL false 1 a4 (a2+k.toNat*1)=some (.int .u16 (l[j]?.getD 0)):=by rw[hj];exact a8 j oM
  have hw:IntKind.i64.wrap (l[j]?.getD 0)=l[j]?.getD 0:=wrap64 oM oM;refine U22 ?_;refine .rt hK func100 results100 [_] ?_;exact okB
 ·have e:l[j]?.getD 0=0:=by rw[List.getElem?_eq_none oM];rfl
  refine U18 ?_;refine .rt hK func100 results100 [_] ?_;exact fun H' hs=> ⟨hs.base,by rw[e];rfl⟩
theorem Pick_c(a b n:Int)(hab:a<=b)(ha: -100000<=a)(hb:b<=100000)(hn:0<=n/\n<65536):CallT M 99 #[bandV a b,.int .i64 n] H (fun v H'=> H.le H'/\v=.int .i64 (pickF a b n)):=by
 refine .en func99 ntmps99 fun St c cs hK=> ?_;have h1:=Int.emod_nonneg n (show b-a+1≠0 by omega);have h2:=Int.emod_lt_of_pos n (show 0<b-a+1 by omega);refine U2 ?_;refine .bo fun b2=> ?_;refine U3 ?_;refine Tc.dr [] [] mixed rfl ?_;refine V9 0 ?_;refine .q 9 rfl (.it (zz:=rem_in oM oM)) ?_;refine V2 10 ?_;refine .dn ?_;refine .rt hK func99 results99 [_] ?_;exact okB
theorem elementR_c(code p:Nat)(h1:code<32)(h2:p<7):CallT M 146 #[.int .i64 code,.int .i64 (p:Nat)] H (fun v H'=> H.le H'/\v=.int .i64 (elementN code p:Nat)):=by
 refine .en func146 ntmps146 fun St c cs hK=> ?_;by_cases c2:p=6
 ·subst c2;refine U19 ?_;refine .rt hK func146 results146 [_] ?_;exact okB
 ·by_cases c1:p=0
  ·subst c1;refine U27 ?_;refine .rt hK func146 results146 [_] ?_;exact okB
  ·have hb:=element_bits code h1 p h2 c1 c2;have g1:shiftV .shr .i64 (code:Int) ((p:Int)-1)=some (.int .i64 (Int.fdiv (code:Int) (2 ^ (min ((p:Int)-1).toNat 64)))):=rfl;have g2:intBin .and .i64 (Int.fdiv (code:Int) (2 ^ (min ((p:Int)-1).toNat 64))) 1=some (.int .i64 (elementN code p:Nat)):=congrArg (fun x=> some (Value.int .i64 x)) hb;refine U29 ?_;refine .x .sf ?_;refine U3 ?_;refine .rt hK func146 results146 [_] ?_;exact okB
theorem elementB_c(code p:Nat)(h1:code<32)(h2:p<7):CallT M 146 #[.int .i64 code,.int .i64 ((p:Int)-1)] H (fun v H'=> H.le H'/\v=.int .i64 (beforeN code p:Nat)):=by
 cases p with
 | zero=>
  refine .en func146 ntmps146 fun St c cs hK=> ?_;refine U19 ?_;refine .rt hK func146 results146 [_] ?_;exact okB
 | succ q=>
  rw[show((q+1:Nat):Int)-1=(q:Nat) by omega];exact elementR_c M H code q h1 oM
theorem EdgesOf_c(code:Nat)(hc:code<32):CallT M 101 #[.int .i64 code] H (fun v H'=> H.le H'/\∃g:Gl 3 1,v=g.val/\g.l=placesV (placesTo code 7)/\∀x∈g.bl,H' x.1=some x.2/\H x.1=none):=by
 refine .en func101 ntmps101 fun St c cs hK=> ?_;refine U14 ?_;refine Tc.db (Tc.loopInv (σ:= { s:Nat×Gl 3 1//s.1<=7/\s.2.l=placesV (placesTo code s.1) })
  (fun s=> ([(0,.int .i64 code),(3,s.1.2.val),(4,.int .i64 (s.1.1:Nat))],s.1.2.bl)) (fun s=> 7-s.1.1) ?_ ⟨(0,Gl.nil 3 1),by simp,rfl⟩)
 rintro⟨⟨p,g⟩,g1,g2⟩ ih;simp only at g1 g2;have hlen:g.n<=7:=by
  have h1:=g.hl;have h2:=placesTo_len code p;rw[g2] at h1;unfold placesV at h1;rw[List.length_map] at h1;omega
 show Tc M St _ _ _ _ [(0,.int .i64 code),(3,g.val),(4,.int .i64 (p:Nat))] g.bl _ _;by_cases c7:p=7
 ·subst c7;refine U13 ?_;refine .rt hK func101 results101 [_] ?_;exact fun H' hs=> ⟨hs.base,g,rfl,g2,fun x hx=> ⟨hs.at_ x hx,hs.out x hx⟩⟩
 ·have c8:p<7:=by omega
  refine U11 ?_;by_cases he:elementN code p=beforeN code p
  ·refine U3 ?_;refine .cl (fun H hs=> elementR_c M H code p hc c8) ?_;refine U3 ?_;refine .cl (fun H hs=> elementB_c M H code p hc c8) ?_;refine U10 ?_;exact Tc.db (ih ⟨(p+1,g),by simp only;omega,by simp only[placesTo,he,if_true];exact g2⟩ (by simp only;omega))
  ·refine U3 ?_;refine .cl (fun H hs=> elementR_c M H code p hc c8) ?_;refine U3 ?_;refine .cl (fun H hs=> elementB_c M H code p hc c8) ?_;refine U6 ?_;refine .e (.bs (zz:=fun bs=> ?_));refine .e (Or.append (E:=en) 1 rfl rfl rfl rfl rfl rfl rfl rfl rfl rfl rfl rfl rfl rfl rfl (fun H hs=> SrcAt.of (hs.get (i:=0) rfl) (Nat.le_of_ble_eq_true rfl)) rfl oM rfl dE (fun g' hn hl=> ?_));refine U8 ?_;exact Tc.db (ih ⟨(p+1,g'),by simp only;omega,by simp only[placesTo,he,if_false];rw[hl,g2];unfold placesV;rw[List.map_append];rfl⟩ (by simp only;omega))
def Lk.pSend(k:Lk)(l:List Int):Int:=pickF k.s0 k.s1 (l[0]?.getD 0)
def Lk.pRead(k:Lk)(l:List Int):Int:=pickF k.r0 k.r1 (l[1]?.getD 0)
def Lk.pLean(k:Lk)(l:List Int):Int:=pickF k.l0 k.l1 (l[2]?.getD 0)
def Lk.pMoves(k:Lk)(l:List Int)(n:Nat):List Int:=(List.range n).map fun i=> pickF k.m0 k.m1 (l[3+i]?.getD 0)
theorem Lk.pMoves_succ(k:Lk)(l:List Int)(n:Nat):k.pMoves l (n+1)=k.pMoves l n++[pickF k.m0 k.m1 (l[3+n]?.getD 0)]:=by
 unfold Lk.pMoves;rw[List.range_succ,List.map_append];rfl
theorem Past_c(k:Lk)(hk:k.ok=true)(code:Nat)(hc:code<32)(A:Option Addr)(l:List Int)(n ca:Nat)(hn:n=l.length)(hA:Picks H A l):
  CallT M 54 #[k.val,.int .i64 code,.slice A n ca] H (fun v H'=> H.le H'/\∃g:Gl 3 1,v=pastV (k.pSend l) (k.pRead l) (k.pLean l) g/\g.l=intsL (k.pMoves l (placesTo code 7).length)/\∀x∈g.bl,H' x.1=some x.2/\H x.1=none):=by
 obtain⟨hks,hkr,hkl,hkm⟩:=Lk.ok_in hk;have hp6:=(places_in code hc).2.1;refine .en func54 ntmps54 fun St c cs hK=> ?_;refine U2 ?_;refine .bo fun b3=> ?_;refine .al fun b6=> ?_;refine U2 ?_;refine Tc.dr [18] [] mixed rfl ?_;refine V3 0 ?_;refine .z 3 rfl (OpV.tk fun H hs=> Choice_c M H A l n ca 0 0 rfl hn (hA.le hs.base)) ?_;refine .z 4 rfl (OpV.tk fun H hs=> Pick_c M H k.s0 k.s1 (l[0]?.getD 0) oM oM oM (hA.in 0)) ?_;refine V3 5 ?_;refine .z 8 rfl (OpV.tk fun H hs=> Choice_c M H A l n ca 1 1 rfl hn (hA.le hs.base)) ?_;refine .z 9 rfl (OpV.tk fun H hs=> Pick_c M H k.r0 k.r1 (l[1]?.getD 0) oM oM oM (hA.in 1)) ?_;refine V4 10 ?_;refine .z 14 rfl (OpV.tk fun H hs=> Choice_c M H A l n ca 2 2 rfl hn (hA.le hs.base)) ?_;refine .z 15 rfl (OpV.tk fun H hs=> Pick_c M H k.l0 k.l1 (l[2]?.getD 0) oM oM oM (hA.in 2)) ?_;refine .nn 16 ?_;refine .ea 17 rfl (.al (zz:=fun b7=> ⟨S2.mk sL (.inr sL),?_⟩));refine .e 18 0 ?_;refine .dn ?_;refine U6 ?_;refine Tc.db (Tc.loopInv (σ:= { s:Nat×Gl 3 1//s.1<=(placesTo code 7).length/\s.2.l=intsL (k.pMoves l s.1) })
  (fun s=> ([(1,.int .i64 code),(2,.slice A n ca),(3,.pointer (some ⟨b3,0,none⟩)),(6,.pointer (some ⟨b6,0,none⟩)),(7,.pointer (some ⟨b7,0,none⟩)),(8,.int .i64 (s.1.1:Nat))],
   (b7,true,.cells ⟨[.int .i64 (k.pSend l),.int .i64 (k.pRead l),.int .i64 (k.pLean l),s.1.2.val]⟩ 121 (0,0))::(b6,true,.cells ⟨[.int .i64 0,.int .i64 0,.int .i64 0,.slice none 0 0]⟩ 121 (0,0))::(b3,true,.cells ⟨k.val.cells.toList⟩ 32 (0,0))::s.1.2.bl)) (fun s=> (placesTo code 7).length-s.1.1) ?_ ⟨(0,Gl.nil 3 1),Nat.zero_le _,rfl⟩)
 rintro⟨⟨i,g⟩,g1,g2⟩ ih;simp only at g1 g2;have hgn:g.n=i:=by
  have h1:=g.hl;rw[g2,intsL_len] at h1;unfold Lk.pMoves at h1;rw[List.length_map,List.length_range] at h1;omega
 show Tc M St _ _ _ _ [(1,.int .i64 code),(2,.slice A n ca),(3,.pointer (some ⟨b3,0,none⟩)),(6,.pointer (some ⟨b6,0,none⟩)),(7,.pointer (some ⟨b7,0,none⟩)),(8,.int .i64 (i:Nat))]
   ((b7,true,.cells ⟨[.int .i64 (k.pSend l),.int .i64 (k.pRead l),.int .i64 (k.pLean l),g.val]⟩ 121 (0,0))::(b6,true,.cells ⟨[.int .i64 0,.int .i64 0,.int .i64 0,.slice none 0 0]⟩ 121 (0,0))::(b3,true,.cells ⟨k.val.cells.toList⟩ 32 (0,0))::g.bl) _ _
 refine U5 ?_;refine .e (Or.callNew Gl.val Gl.bl (fun ge:Gl 3 1=> ge.l=placesV (placesTo code 7)) rfl rfl rfl rfl rfl dE gl_nodup (fun H hs=> .h (EdgesOf_c M H code hc)) (fun ge hge=> ?_));have hn2:=gl_len hge;by_cases c1:i=(placesTo code 7).length
 ·subst c1;refine U10 ?_;refine .rt hK func54 results54 [_] ?_;exact fun H' hs=> ⟨hs.base,g,rfl,g2,fun x hx=> ⟨hs.at_ x (by simp[hx]),hs.out x (by simp[hx])⟩⟩
 ·have c2:i<(placesTo code 7).length:=by omega
  refine U3 ?_;refine Tc.dropB (R':= [(1,.int .i64 code),(2,.slice A n ca),(3,.pointer (some ⟨b3,0,none⟩)),(6,.pointer (some ⟨b6,0,none⟩)),(7,.pointer (some ⟨b7,0,none⟩)),(8,.int .i64 (i:Nat)),(30,.bool true)]) (L':=(b7,true,.cells ⟨[.int .i64 (k.pSend l),.int .i64 (k.pRead l),.int .i64 (k.pLean l),g.val]⟩ 121 (0,0))::(b6,true,.cells ⟨[.int .i64 0,.int .i64 0,.int .i64 0,.slice none 0 0]⟩ 121 (0,0))::(b3,true,.cells ⟨k.val.cells.toList⟩ 32 (0,0))::g.bl) ?_ ⟨rfl,rfl,rfl,rfl,rfl,rfl,rfl,trivial⟩ (List.sublist_append_left _ _);refine U4 ?_;refine Tc.drT [11,13] [] [0] 3 mixed rfl ?_;refine .oo 0 ?_;refine .oo 1 ?_;refine .oo 2 ?_;refine .oo 3 ?_;refine .oo 4 ?_;refine .oo 5 ?_;refine .oo 6 ?_;refine .oo 7 ?_;refine Ta.tkC 8 kR rfl rfl dE rfl rfl (OpV.tk fun H hs=> Choice_c M H A l n ca (3+(i:Int)) (3+i) oM hn (hA.le hs.base)) ?_;refine Ta.tkC 9 kR rfl rfl dE rfl rfl (OpV.tk fun H hs=> Pick_c M H k.m0 k.m1 (l[3+i]?.getD 0) oM oM oM (hA.in (3+i))) ?_;refine .ea 10 rfl (.bs (zz:=fun bs=> ⟨S3.mk sL (.inr sL),?_⟩));refine .ea 11 rfl (Or.append (E:=en) 4 rfl rfl rfl rfl rfl rfl rfl rfl rfl rfl rfl rfl rfl rfl rfl (fun H hs=> SrcAt.of (hs.get (i:=0) rfl) (Nat.le_of_ble_eq_true rfl)) rfl oM rfl dE (fun g' hn' hl=> ⟨S3.mk sL (.inl kR),?_⟩));refine .ow 12 ?_;refine .ea 13 rfl (.st 1 (zz:=⟨S3.mk sL (.inl kR),?_⟩));refine .dn ?_;refine U6 ?_;exact Tc.db (ih ⟨(i+1,g'),by simp only;omega,by simp only;rw[hl,g2,Lk.pMoves_succ];unfold intsL;rw[List.map_append];rfl⟩ (by simp only;omega))
theorem Lk.pMoves_len(k:Lk)(l:List Int)(n:Nat):(k.pMoves l n).length=n:=by simp[Lk.pMoves]
end
end Go.Proofs.YtcagolloalgfiaaGreatDoor.Sg
namespace Go.Proofs.YtcagolloalgfiaaGreatDoor
open Go.RL Go.Proofs.Tryz Go.ChangeShapes Go.WideShapes Go.ChangeAt Go.RowKit
set_option maxRecDepth 100000
theorem gSChecks:prog.globalNamed "baudot/signal.checks"=some 0:=by kernel_rfl
theorem tSChecks:(prog.globals[0]?).map (·.type)=some 233:=by kernel_rfl
theorem undS4:prog.underlying 233=some (.array 4 232):=by kernel_rfl
theorem undSF:prog.underlying 232=some (.func #[177] #[4] false):=by kernel_rfl
theorem cellsSF:prog.cellsOf 232=1:=by kernel_rfl
theorem cellsS4:prog.cellsOf 233=4:=by kernel_rfl
theorem sglob_of {LL:List (String×DataW Unit)}(hc:("baudot/signal.checks",(Rows.laid_baudot_signal_checks:DataW Unit))∈LL){W:World}(h:laidMetH prog LL W):Sg.Glob (fullV W):=by
 obtain⟨g,t,cs,fuel,p,hg,ht,hv,hd⟩:=h.funcs (n:= "baudot/signal.checks") hc;obtain rfl:=Option.some.inj (gSChecks.symm.trans hg);obtain rfl:=Option.some.inj (tSChecks.symm.trans ht);have hh:∃gt gz,W.heap[0]? =some (.cells cs gt gz):=by
  unfold World.var? at hv;rw[gSChecks] at hv;simp only[Option.bind_some] at hv;split at hv
  ·rename_i cs' t' z e
   obtain rfl:=Option.some.inj hv;exact⟨_,_,e⟩
  ·cases hv
 obtain⟨gt,gz,hh⟩:=hh;have hlen:cs.toList.length=4:=by
  cases fuel with
  | zero=> simp[DataW.trod] at hd
  | succ n=>
   unfold DataW.trod at hd;rw[undS4] at hd;simp[cellsS4] at hd
   simpa using hd.1
 obtain⟨c0,c1,c2,c3,hcs⟩:∃c0 c1 c2 c3,cs.toList= [c0,c1,c2,c3]:=by
  match e:cs.toList,hlen with
  | [c0,c1,c2,c3],_=> exact⟨c0,c1,c2,c3,rfl⟩
 rw[hcs] at hd;obtain⟨y0,y1,y2,y3,n,hx,r0,r1,r2,r3⟩:=trod_array4 undS4 cellsSF hd;have hx':=congrArg Prod.fst hx;have hx2:(DataW.agg [y0.1,y1.1,y2.1,y3.1]:DataW (List UInt8))=DataW.agg [.held _,.held _,.held _,.held _]:=hx'.symm;simp only[DataW.agg.injEq,List.cons.injEq,and_true] at hx2;obtain⟨e0,e1,e2,e3⟩:=hx2;obtain⟨d0,q0⟩:=y0;obtain⟨d1,q1⟩:=y1;obtain⟨d2,q2⟩:=y2;obtain⟨d3,q3⟩:=y3;simp only at e0 e1 e2 e3;subst e0 e1 e2 e3;obtain rfl:=func_of_trod (f0:=214) undSF kR r0;obtain rfl:=func_of_trod (f0:=215) undSF kR r1;obtain rfl:=func_of_trod (f0:=210) undSF kR r2;obtain rfl:=func_of_trod (f0:=216) undSF kR r3;refine⟨false,gt,gz,?_⟩;have ec:cs=⟨[Sg.chkF 0,Sg.chkF 1,Sg.chkF 2,Sg.chkF 3]⟩:=by
  apply Array.ext'
  rw[hcs];rfl
 rw[<-ec];simp only[fullV,hh,Option.map_some]
theorem open_link {W:World}{base:Nat}{v:Value}(h:Value.okWide prog W .any base 32 v):∃k:Sg.Lk,v=k.val:=by
 have h':∃cs,v=.agg cs/\cs.size=prog.cellsOf 32/\Row.okWide prog W .any base 32 cs:=by
  unfold Value.okWide at h;split at h
  ·exact h
  ·exact h
  ·rename_i h1 h2
   exact(h1 _ Tryz.underlying32).elim
 obtain⟨cs,rfl,hsz,ts,h1,_,h3⟩:=h';rw[show prog.cellsOf 32=8 by kernel_rfl] at hsz;obtain rfl:=Option.some.inj ((show prog.cellTypes prog.depth 32=some [3,3,3,3,3,3,3,3] by kernel_rfl).symm.trans h1);have hc:∀i,i<8->∃x,cs[i]? =some (.int .i64 x):=fun i hi=> by
  have hg:cs[i]? =some cs[i]:=Array.getElem?_eq_getElem oM;obtain⟨u,hu,hv⟩:=h3 i _ hg;have:u=3:=by
   rcases(by omega:i=0\/i=1\/i=2\/i=3\/i=4\/i=5\/i=6\/i=7) with rfl|rfl|rfl|rfl|rfl|rfl|rfl|rfl <;> exact(Option.some.inj hu).symm
  subst this;obtain⟨x,hx⟩:=cell_int hv;exact⟨x,by rw[hg,hx]⟩
 obtain⟨x0,e0⟩:=hc 0 dE;obtain⟨x1,e1⟩:=hc 1 dE;obtain⟨x2,e2⟩:=hc 2 dE;obtain⟨x3,e3⟩:=hc 3 dE;obtain⟨x4,e4⟩:=hc 4 dE;obtain⟨x5,e5⟩:=hc 5 dE;obtain⟨x6,e6⟩:=hc 6 dE;obtain⟨x7,e7⟩:=hc 7 dE;refine⟨⟨x0,x1,x2,x3,x4,x5,x6,x7⟩,?_⟩;unfold Sg.Lk.val
 congr 1
 obtain⟨l⟩:=cs;simp only[List.size_toArray] at hsz;obtain⟨a,b,c,d,e,f,g,h,rfl⟩:∃a b c d e f g h,l= [a,b,c,d,e,f,g,h]:=by
  match l,hsz with
  | [a,b,c,d,e,f,g,h],_=> exact⟨a,b,c,d,e,f,g,h,rfl⟩
 simp at e0 e1 e2 e3 e4 e5 e6 e7
 rw[e0,e1,e2,e3,e4,e5,e6,e7]
theorem open_picks {H:Type}{enc:TypeId×Value->H}{W:World}{base:Nat}{v:Value}(hv:Value.okWide prog W .any base 37 v)(h:∃d q,DataW.Trod enc prog W 0 (fun _=> true) true 37 v d q):
  ∃(A:Option Addr) (l:List Int) (ca:Nat),v=.slice A l.length ca/\l.length<=ca/\Sg.Picks (fullV W) A l:=by
 obtain⟨d,q,h⟩:=h;obtain⟨A,l,ca,rfl,_,hca,h1,h2⟩:=open_list (k:=.u16) Tryz.underlying37 kR kR hv h;refine⟨A,l,ca,rfl,hca,fun x hx=> ?_,?_⟩
 ·have h3:=h1 x hx;rw[show IntKind.u16.min=0 by kernel_rfl,show IntKind.u16.max=65535 by kernel_rfl] at h3;omega
 ·rcases h2 with h2|⟨ab,ao,gs,gt,gz,e1,e2,e3⟩
  ·exact .inl h2
  ·exact .inr ⟨ab,ao,false,gs,gt,gz,e1,e2,e3⟩
end Go.Proofs.YtcagolloalgfiaaGreatDoor
namespace Go.Proofs.YtcagolloalgfiaaGreatDoor
open Go.RL Go.Proofs.Tryz
set_option maxRecDepth 10000
set_option maxHeartbeats 16000000
structure Sb where
 room:Int
 gap:Int
 nm:Nat
 name:Nat->List UInt8
 gr:Nat->Int
 due:Nat->Int
 ns:Nat
 np:Nat->Nat
 pm:Nat->Nat->Int
 pg:Nat->Nat->Int
 nr:Nat
 kd:Nat->Int
 ra:Nat->Int
 rb:Nat->Int
 rm:Nat->Int
structure Sa where
 A:Option Addr
 mc:Nat
 S:Option Addr
 sc:Nat
 R:Option Addr
 rc:Nat
def msgV(s:List UInt8)(g d:Int):Value:=.agg ⟨[strV s,.int .i64 g,.int .i64 d]⟩
def sesV(P:Option Addr)(n c:Nat):Value:=.agg ⟨[.slice P n c]⟩
def prtV(m g:Int):Value:=.agg ⟨[.int .i64 m,.int .i64 g]⟩
def recV(k a b m:Int):Value:=.agg ⟨[.int .i64 k,.int .i64 a,.int .i64 b,.int .i64 m]⟩
def Sb.val(b:Sb)(a:Sa):Value:=.agg ⟨[.int .i64 b.room,.int .i64 b.gap,.slice a.A b.nm a.mc,.slice a.S b.ns a.sc,.slice a.R b.nr a.rc]⟩
def PartsAt(H:View)(P:Option Addr)(n:Nat)(x y:Nat->Int):Prop:=
 n=0\/∃b o f gs gt gz,P=some ⟨b,o,none⟩/\H b=some (f,.cells ⟨gs⟩ gt gz)/\∀j:Nat,j<n->ldL true 2 gs (o+(j:Int).toNat*2)=some (prtV (x j) (y j))
structure SbAt(H:View)(b:Sb)(a:Sa):Prop where
 msgs:b.nm<=a.mc/\(b.nm=0\/∃k o f gs gt gz,a.A=some ⟨k,o,none⟩/\H k=some (f,.cells ⟨gs⟩ gt gz)/\∀i:Nat,i<b.nm->ldL true 3 gs (o+(i:Int).toNat*3)=some (msgV (b.name i) (b.gr i) (b.due i)))
 sess:b.ns<=a.sc/\(b.ns=0\/∃k o f gs gt gz,a.S=some ⟨k,o,none⟩/\H k=some (f,.cells ⟨gs⟩ gt gz)/\∀i:Nat,i<b.ns->∃P pc,ldL true 1 gs (o+(i:Int).toNat*1)=some (sesV P (b.np i) pc)/\b.np i<=pc/\PartsAt H P (b.np i) (b.pm i) (b.pg i))
 recs:b.nr<=a.rc/\(b.nr=0\/∃k o f gs gt gz,a.R=some ⟨k,o,none⟩/\H k=some (f,.cells ⟨gs⟩ gt gz)/\∀i:Nat,i<b.nr->ldL true 4 gs (o+(i:Int).toNat*4)=some (recV (b.kd i) (b.ra i) (b.rb i) (b.rm i)))
theorem PartsAt.le {H H':View}{P:Option Addr}{n:Nat}{x y:Nat->Int}(h:PartsAt H P n x y)(k:H.le H'):PartsAt H' P n x y:=
 h.imp id fun⟨b,o,f,gs,gt,gz,h1,h2,h3⟩=> ⟨b,o,f,gs,gt,gz,h1,k _ _ h2,h3⟩
theorem SbAt.le {H H':View}{b:Sb}{a:Sa}(h:SbAt H b a)(hl:H.le H'):SbAt H' b a where
 msgs:=⟨h.msgs.1,h.msgs.2.imp id fun⟨k,o,f,gs,gt,gz,h1,h2,h3⟩=> ⟨k,o,f,gs,gt,gz,h1,hl _ _ h2,h3⟩⟩
 sess:=⟨h.sess.1,h.sess.2.imp id fun⟨k,o,f,gs,gt,gz,h1,h2,h3⟩=> ⟨k,o,f,gs,gt,gz,h1,hl _ _ h2,fun i hi=> by
  obtain⟨P,pc,h4,h5,h6⟩:=h3 i hi;exact⟨P,pc,h4,h5,h6.le hl⟩⟩⟩
 recs:=⟨h.recs.1,h.recs.2.imp id fun⟨k,o,f,gs,gt,gz,h1,h2,h3⟩=> ⟨k,o,f,gs,gt,gz,h1,hl _ _ h2,h3⟩⟩
def Sb.isPart(b:Sb)(m g:Int):Bool:=decide (0<=m/\m<b.nm)&&decide (0<=g/\g<b.gr m.toNat)
section
variable(M:Md prog)(H:View)
theorem insideS_c(n a b:Int):CallT M 80 #[.int .i64 n,.int .i64 a,.int .i64 b] H (fun v H'=> H.le H'/\v=.bool (decide (a<=n/\n<=b))):=by
 refine .en func80 ntmps80 fun St c cs hK=> ?_;by_cases h1:a<=n
 ·by_cases h2:n<=b
  ·rw[decide_eq_true (show a<=n/\n<=b from⟨h1,h2⟩)] at hK;refine U16 ?_;refine .rt hK func80 results80 [_] ?_;exact okB
  ·rw[decide_eq_false (show ¬(a<=n/\n<=b) by omega)] at hK;refine U16 ?_;refine .rt hK func80 results80 [_] ?_;exact okB
 ·rw[decide_eq_false (show ¬(a<=n/\n<=b) by omega)] at hK;refine U16 ?_;refine .rt hK func80 results80 [_] ?_;exact okB
theorem insideS_t {n a b:Int}(h:a<=n/\n<=b):CallT M 80 #[.int .i64 n,.int .i64 a,.int .i64 b] H (fun v H'=> H.le H'/\v=.bool true):=isV (insideS_c M H n a b) (by rw[decide_eq_true h])
theorem insideS_f {n a b:Int}(h:¬(a<=n/\n<=b)):CallT M 80 #[.int .i64 n,.int .i64 a,.int .i64 b] H (fun v H'=> H.le H'/\v=.bool false):=isV (insideS_c M H n a b) (by rw[decide_eq_false h])
theorem isNameS_c(s:List UInt8)(hn:isNm s=true):CallT M 162 #[strV s] H (fun v H'=> H.le H'/\v=.bool true):=by
 unfold isNm at hn;rw[Bool.and_eq_true,decide_eq_true_eq,allB_iff] at hn;obtain⟨⟨h1,h9⟩,hall⟩:=hn;refine .en func162 ntmps162 fun St c cs hK=> ?_;refine U8 ?_;refine .e (Or.convSB (E:=en) rfl rfl rfl rfl rfl rfl rfl rfl rfl dE (fun sb cap jj fz=> ?_));refine U4 ?_;refine Tc.db (Tc.loopInv (σ:= { q:Nat//q<=s.length }) (fun q=> ([(0,strV s),(6,.slice (some ⟨sb,0,none⟩) s.length cap),(7,.int .i64 (s.length:Nat)),(8,.int .i64 (q.1:Nat))],[(sb,true,.cells ⟨bytesV s++jj⟩ 5 fz)])) (fun q=> s.length-q.1) ?_ ⟨0,Nat.zero_le _⟩);rintro⟨q,hq⟩ ih;show Tc M St _ _ _ _ [(0,strV s),(6,.slice (some ⟨sb,0,none⟩) s.length cap),(7,.int .i64 (s.length:Nat)),(8,.int .i64 (q:Nat))] [(sb,true,.cells ⟨bytesV s++jj⟩ 5 fz)] _ _;by_cases c1:q=s.length
 ·clear ih;subst c1;refine U11 ?_;refine .cl (fun H hs=> insideS_t M H (n:=(s.length:Nat)) (a:=1) (b:=9) oM) ?_;refine U2 ?_;refine .rt hK func162 results162 [_] ?_;exact okB
 ·have c2:q<s.length:=by omega
  have hx:=hall q c2;obtain⟨x,hxq⟩:∃x,s[q]? =some x:=⟨s[q],List.getElem?_eq_getElem c2⟩
  unfold nmAt at hx;rw[hxq] at hx;simp only[Bool.or_eq_true,Bool.and_eq_true,decide_eq_true_eq,low,dig] at hx;have f1:ldL false 1 (bytesV s++jj) (0+((q:Nat):Int).toNat*1)=some (.int .u8 ((x.toNat:Nat):Int)):=by
   show(bytesV s++jj)[0+((q:Nat):Int).toNat*1]? =_;rw[Int.toNat_natCast,Nat.zero_add,Nat.mul_one,List.getElem?_append_left (by rw[bytesV_len];exact c2)];unfold bytesV;rw[List.getElem?_map,hxq];rfl
  by_cases c3:97<=x.toNat
  ·by_cases c4:x.toNat<=122
   ·refine U29 ?_;refine To.skippedU rfl dE rfl ?_;refine To.skippedU rfl dE rfl ?_;refine U2 ?_;refine To.skippedU rfl dE rfl ?_;refine To.skippedU rfl dE rfl ?_;refine U11 ?_;exact Tc.db (ih ⟨q+1,oM⟩ (by simp only;omega))
   ·exfalso
    omega
  ·have c5:0<q/\48<=x.toNat/\x.toNat<=57:=by omega
   obtain⟨c5,c6,c7⟩:=c5;refine U46 ?_;exact Tc.db (ih ⟨q+1,oM⟩ (by simp only;omega))
theorem isPart_c(b:Sb)(a:Sa)(hb:SbAt H b a)(hnm:b.nm<=1000)(hgr:∀i,i<b.nm-> -1000000<=b.gr i/\b.gr i<=1000000)(m g:Int):CallT M 163 #[b.val a,prtV m g] H (fun v H'=> H.le H'/\v=.bool (b.isPart m g)):=by
 by_cases c0:0<=m/\m<b.nm
 ·obtain⟨n,rfl⟩:∃n:Nat,m=n:=⟨m.toNat,oM⟩
  have c1:n<b.nm:=by omega
  obtain⟨_,h0|⟨k,o,f,gs,gt,gz,e1,e2,e3⟩⟩:=hb.msgs
  ·omega
  have f1:=e3 n c1;have f2:ldL false 1 gs (o+((n:Nat):Int).toNat*3+1)=some (.int .i64 (b.gr n)):=ldL_cell f1 dE;have hg:=hgr n c1;have hv:b.isPart (n:Nat) g=decide (0<=g/\g<=b.gr n-1):=by
   unfold Sb.isPart;rw[decide_eq_true c0,Bool.true_and,Int.toNat_natCast,decide_eq_decide];omega
  rw[hv];obtain⟨aA,mc,aS,sc,aR,rc⟩:=a;simp only at e1;subst e1;refine .en func163 ntmps163 fun St c cs hK=> ?_;refine U2 ?_;refine .bo fun b2=> ?_;refine .bo fun b3=> ?_;refine U3 ?_;refine Tc.dr [] [] mixed rfl ?_;refine V7 0 ?_;refine .z 7 rfl (OpV.tk fun H hs=> insideS_t M H (n:=((n:Nat):Int)) (a:=0) (b:=((b.nm:Nat):Int)-1) oM) ?_;refine V12 8 ?_;refine .z 20 rfl (OpV.tk fun H hs=> insideS_c M H _ _ _) ?_;refine V2 21 ?_;refine .dn ?_;refine .rt hK func163 results163 [_] ?_;exact okB
 ·have hv:b.isPart m g=false:=by
   unfold Sb.isPart;rw[decide_eq_false c0];rfl
  rw[hv];refine .en func163 ntmps163 fun St c cs hK=> ?_;refine U2 ?_;refine .bo fun b2=> ?_;refine .bo fun b3=> ?_;refine U3 ?_;refine Tc.dr [] [] mixed rfl ?_;refine V7 0 ?_;refine .z 7 rfl (OpV.tk fun H hs=> insideS_f M H (n:=m) (a:=0) (b:=((b.nm:Nat):Int)-1) oM) ?_;refine .nn 8 ?_;refine .nw 9 ?_;refine .nw 10 ?_;refine .nw 11 ?_;refine .nw 12 ?_;refine .nw 13 ?_;refine .nw 14 ?_;refine .nw 15 ?_;refine .nw 16 ?_;refine .nw 17 ?_;refine .nw 18 ?_;refine .nw 19 ?_;refine .nw 20 ?_;refine V2 21 ?_;refine .dn ?_;refine .rt hK func163 results163 [_] ?_;exact okB
end
end Go.Proofs.YtcagolloalgfiaaGreatDoor
namespace Go.RL
open Go.Conc
theorem modify_congr {α:Type}{es:Array α}{i:Nat}{f g:α->α}(h:∀e,es[i]? =some e->f e=g e):es.modify i f=es.modify i g:=by
 apply Array.ext
 ·simp
 ·intro j h1 h2;rw[Array.getElem_modify,Array.getElem_modify];split
  ·rename_i e
   subst e;exact h _ (Array.getElem?_eq_getElem (by simpa using h1))
  ·rfl
theorem modify_id {α:Type}{es:Array α}{i:Nat}{f:α->α}(h:∀e,es[i]? =some e->f e=e):es.modify i f=es:=by
 rw[modify_congr (g:=id) h];apply Array.ext
 ·simp
 ·intro j h1 h2;rw[Array.getElem_modify];split <;> rfl
theorem modify_push {α:Type}{es:Array α}{e:α}{f:α->α}:(es.push e).modify es.size f=es.push (f e):=by
 apply Array.ext
 ·simp
 ·intro j h1 h2;rw[Array.getElem_modify,Array.getElem_push,Array.getElem_push];have:j<es.size+1:=by simpa using h2
  by_cases hj:j<es.size
  ·rw[if_neg oM,dif_pos hj,dif_pos hj]
  ·rw[if_pos oM,dif_neg hj,dif_neg hj]
def mapHold(es:Array MapEntry)(cl:Nat)(k z:Value)(r:Option (Nat×Value)):Array MapEntry×Nat:=
 match r with
 | some _=> (es,cl)
 | none=> (es.push { key:=k,val:=z,born:=cl },cl+1)
def holdS(es:Array MapEntry)(cl:Nat)(r:Option (Nat×Value)):Nat:=
 match r with
 | some (i,_)=> ((es[i]?).map (·.born)).getD 0
 | none=> cl
section
variable {P:Program}{M:Md P}{n:Nat}{H₀:View}{R:Rg}{L:Bl}{o:Oper}{d:Nat}{K:Rg->Bl->Prop}{E:Env P}
theorem Or.mapEntry(i dp:Nat){t kt et:TypeId}{x y:Operand}{m:Nat}{k:Value}{es:Array MapEntry}{cl:Nat}{r re:TyRow}(hop:o.op=.mapEntry t x y)(hx:evR R x=some (.map (some m)))(hy:evR R y=some k)
  (hi:L[i]? =some (m,true,.map es cl)) (ht:E.ty t=some r) (hds:r.ds=.map kt et) (hre:E.ty et=some re) (hdp:dp<=10000) (hk:KeyFl E dp kt k) (hes:∀e∈es.toList,KeyFl E dp kt e.key) (hd:o.dst=some d) (hn:d<n)
  (hq:∀r,FindOk es.toList k r->K ((d,.tuple #[foundV re.zero r false,.int .i64 (holdS es cl r:Nat)])::R) (L.set i (m,true,.map (mapHold es cl k re.zero r).1 (mapHold es cl k re.zero r).2))):Or M n H₀ R L o K:=
 .val hd hn fun H tmps hs hr=> by
  unfold execOp;rw[hop];simp only[hr.ev hx,hr.ev hy];have hbm:=hs.get hi;have hk':=hk;obtain⟨rk,l,htk,hkl,hf⟩:=hk;obtain⟨_,dd,_,hdd⟩:=flat_underlying hf;refine vwp_bind (Instr.mapEntry t _ _) _ ?_;refine vwp_bind (underlying t) _ (vwp_underlying (ds_map ((E.ok _ _ ht).ds.trans hds)) ?_);refine⟨true,.map es cl,hbm,by simp,rfl,?_⟩;show vwp P ((Instr.checkKey false 10000 kt k).bind fun _=> _) H _;rw[hkl];refine vwp_bind _ _ (vwp_checkKey dp 10000 hdp htk hf ?_);rw[<-hkl];refine vwp_bind (Instr.findKey kt _ es.toList) _ (vwp_findKey hdp hk' hdd hes fun r hr'=> ?_);have fin:=hq r hr';cases r with
  | none=>
   refine vwp_bind (zeroValue et) _ (vwp_zeroValue (E.ok _ _ hre).zero ?_);exact⟨⟨_,hbm,by simp⟩,rfl,_,rfl,_,hs.set hi _,fin⟩
  | some p=>
   obtain⟨j,w⟩:=p;obtain⟨e,he,hek,_⟩:=hr';have hj:es[j]? =some e:=by simpa using he
   have hkey:((es[j]?).map (·.key)).getD k=k:=by
    rw[hj];simp[hek]
   show vwp P ((Instr.keyThatStays (((es[j]?).map (·.key)).getD k) k).bind fun _=> _) H _;rw[hkey];have hstay:∀Q:Value->View->Prop,Q k H->vwp P (Instr.keyThatStays k k) H Q:=by
    intro Q hQ;unfold Instr.keyThatStays;split
    ·exact hQ
    ·refine vwp_bind (choose _) _ ?_;intro t';show Q (if _ then k else k) H;simpa using hQ
   refine vwp_bind _ _ (hstay _ ?_);have hid:es.modify j (fun e=> { e with key:=k })=es:=modify_id fun e' he'=> by
    rw[hj] at he';cases he'
    rw[<-hek]
   refine⟨⟨_,hbm,by simp⟩,rfl,_,rfl,_,hs.set hi _,?_⟩;rw[hid];simp only[holdS,hj,Option.map_some,Option.getD_some,mapHold,foundV] at fin ⊢;exact fin
theorem Or.entryStore(i:Nat){t:TypeId}{x y z:Operand}{m:Nat}{k w zv:Value}{es:Array MapEntry}{cl:Nat}{r:Option (Nat×Value)}(hop:o.op=.entryStore t x y z)(hx:evR R x=some (.map (some m)))(hy:evR R y=some (.int .i64 (holdS es cl r:Nat)))(hz:evR R z=some w)
  (hi:L[i]? =some (m,true,.map (mapHold es cl k zv r).1 (mapHold es cl k zv r).2)) (hr':FindOk es.toList k r) (hb:(es.toList.map (·.born)).Nodup) (hlt:∀e∈es.toList,e.born<cl) (hd:o.dst=none)
  (hq:K R (L.set i (m,true,mapPut es cl k w r))):Or M n H₀ R L o K:=
 .non hd fun H tmps hs hr=> by
  unfold execOp;rw[hop];simp only[hr.ev hx,hr.ev hy,hr.ev hz];have hbm:=hs.get hi;refine vwp_bind (Instr.entryStore t _ _ _) _ ?_;refine⟨true,_,hbm,by simp,rfl,?_⟩;cases r with
  | none=>
   have hf:(es.push { key:=k,val:=zv,born:=cl }).findIdx? (fun e=> (e.born:Int)==((cl:Nat):Int))=some es.size:=by
    rw[Array.findIdx?_eq_some_iff_getElem];refine⟨by simp,by simp,fun j hj=> ?_⟩;rw[Array.getElem_push,dif_pos hj];have:=hlt es[j] (by simp);simp
    omega
   show vwp P (match (es.push { key:=k,val:=zv,born:=cl }).findIdx? (fun e=> (e.born:Int)==((cl:Nat):Int)) with|some i=> _|none=> _) H _;rw[hf];refine⟨⟨_,hbm,by simp⟩,rfl,rfl,_,hs.set hi _,?_⟩;show K R (L.set i (m,true,.map ((es.push { key:=k,val:=zv,born:=cl }).modify es.size (fun e=> { e with val:=w })) (cl+1)));rw[modify_push];exact hq
  | some p=>
   obtain⟨j,v⟩:=p;obtain⟨e,he,hek,hev⟩:=hr';have hj:es[j]? =some e:=by simpa using he
   obtain⟨hjl,hje⟩:=Array.getElem?_eq_some_iff.1 hj;have hS:holdS es cl (some (j,v))=e.born:=by
    show((es[j]?).map (·.born)).getD 0=e.born;rw[hj];rfl
   have hf:es.findIdx? (fun e'=> (e'.born:Int)==((e.born:Nat):Int))=some j:=by
    rw[Array.findIdx?_eq_some_iff_getElem];refine⟨hjl,by simp[hje],fun q hq=> ?_⟩;have hql:q<es.size:=Nat.lt_trans hq hjl;simp only[beq_iff_eq];intro hne;have h1:(es.toList.map (·.born))[q]'(by simpa using hql)=(es.toList.map (·.born))[j]'(by simpa using hjl):=by
     simp only[List.getElem_map,Array.getElem_toList];rw[hje];exact Int.ofNat.inj hne
    have:=(List.getElem_inj hb).1 h1;omega
   rw[hS];show vwp P (match es.findIdx? (fun e'=> (e'.born:Int)==((e.born:Nat):Int)) with|some i=> _|none=> _) H _;rw[hf];refine⟨⟨_,hbm,by simp⟩,rfl,rfl,_,hs.set hi _,?_⟩;have:es.modify j (fun e=> { e with val:=w })=es.modify j (fun e=> { e with key:=k,val:=w }):=modify_congr fun e' he'=> by
    rw[hj] at he';cases he'
    rw[<-hek]
   show K R (L.set i (m,true,.map (es.modify j (fun e=> { e with val:=w })) cl));rw[this];exact hq
end
end Go.RL
namespace Go.RL
section
variable {P:Program}{n:Nat}{H₀:View}{R:Rg}{L:Bl}{o:Oper}{E:Env P}
theorem OpV.sliceF {t e:TypeId}{x:Operand}{lo hi:Option Operand}{l h:Int}{len cap:Nat}{F:Option Addr}{r re:TyRow}(hop:o.op=.slice t x lo hi none)(hx:evR R x=some (.slice F len cap))(ht:E.ty t=some r)(hds:r.ds=.slice e)
  (hre:E.ty e=some re) (hlo:bound R lo 0=some l) (hhi:bound R hi len=some h) (h0:0<=l) (h1:l<=h) (h2:h<=cap):
  OpV P n H₀ R L o (.slice (if cap=l.toNat then F else F.map (·.add (l.toNat*re.size))) (h.toNat-l.toNat) (cap-l.toNat)):=
 (fun H tmps _ hr=> by
  unfold execOp;rw[hop];simp only[hr.ev hx];refine vwp_bind (Instr.sliceAt t _ _ _ _) _ ?_;refine vwp_bind (underlying t) _ (vwp_underlying (ds_slice ((E.ok _ _ ht).ds.trans hds)) ?_);refine vwp_bind (underlying t) _ (vwp_underlying (ds_slice ((E.ok _ _ ht).ds.trans hds)) ?_);show vwp P ((Instr.sliceBounds true len cap (lo.map (evT tmps)) (hi.map (evT tmps)) none).bind fun b=> _) H _;refine vwp_bind _ _ (vwp_sliceBounds hr hlo hhi h0 h1 h2 ?_);refine vwp_bind (sizeOf e) _ (vwp_sizeOf (E.ok _ _ hre).size ?_);exact⟨rfl,rfl⟩)
end
end Go.RL
namespace Go.RL
open Go.Conc
section
variable {P:Program}{E:Env P}{n:Nat}{H₀:View}{R:Rg}{L:Bl}{o:Oper}
theorem OpV.sliceH {t e:TypeId}{x:Operand}{hi:Option Operand}{k:Nat}{len cap:Nat}{F:Option Addr}{r re:TyRow}(hop:o.op=.slice t x none hi none)(hx:evR R x=some (.slice F len cap))(ht:E.ty t=some r)(hds:r.ds=.slice e)
  (hre:E.ty e=some re) (hhi:bound R hi len=some (k:Int)) (h2:k<=cap):OpV P n H₀ R L o (.slice F k cap):=by
 have:=OpV.sliceF (E:=E) (P:=P) (n:=n) (H₀:=H₀) (L:=L) hop hx ht hds hre rfl hhi oM oM oM;have hF:F.map (·.add (((0:Nat):Int).toNat*re.size))=F:=by
  cases F with
  | none=> rfl
  | some a=>
   obtain⟨b,o,z⟩:=a;simp[Addr.add]
 rw[hF] at this;simpa using this
end
end Go.RL
namespace Go.Proofs.YtcagolloalgfiaaGreatDoor
open Go.RL Go.Proofs.Tryz
set_option maxRecDepth 10000
set_option maxHeartbeats 16000000
def cntP(x y:Nat->Int)(p:Int×Int):Nat->Nat
 | 0=> 0
 | j+1=> cntP x y p j+if x j=p.1/\y j=p.2 then 1 else 0
def cntS(b:Sb)(c:Nat->Nat)(p:Int×Int):Nat->Nat
 | 0=> 0
 | i+1=> cntS b c p i+cntP (b.pm i) (b.pg i) p (c i)
theorem cntP_le(x y:Nat->Int)(p:Int×Int):∀j,cntP x y p j<=j
 | 0=> Nat.le_refl _
 | j+1=> by
  have:=cntP_le x y p j;unfold cntP;split <;> omega
theorem cntS_le {b:Sb}{c:Nat->Nat}{p:Int×Int}:∀i,(∀k,k<i->c k<=1000)->cntS b c p i<=1000*i
 | 0,_=> Nat.le_refl _
 | i+1,h=> by
  have h1:=cntS_le (b:=b) (p:=p) i fun k hk=> h k oM;have h2:=cntP_le (b.pm i) (b.pg i) p (c i);have h3:=h i oM;unfold cntS;omega
def prtP(p:Int×Int):Value:=prtV p.1 p.2
def cntF(n:Int×Int->Nat)(kv v:Value):Prop:=∃p,0<n p/\kv=prtP p/\v=.int .i64 (n p:Nat)
theorem prt_flat(m g:Int):flat en 2 56 [.int .i64 m,.int .i64 g]:=by
 refine⟨rfl,?_⟩;intro f hf;simp only[List.mem_cons,List.not_mem_nil,or_false] at hf;rcases hf with rfl|rfl
 ·exact⟨⟨_,rfl⟩,_,rfl,rfl,Nat.le_of_ble_eq_true rfl⟩
 ·exact⟨⟨_,rfl⟩,_,rfl,rfl,Nat.le_of_ble_eq_true rfl⟩
theorem prt_key(p:Int×Int):KeyFl en 2 56 (prtP p):=⟨_,[.int .i64 p.1,.int .i64 p.2],rfl,rfl,prt_flat _ _⟩
theorem prt_inj {p q:Int×Int}(h:prtP p=prtP q):p=q:=by
 obtain⟨a,b⟩:=p;obtain⟨c,d⟩:=q;unfold prtP prtV at h;simp only[Value.agg.injEq,Array.mk.injEq,List.cons.injEq,Value.int.injEq,and_true,true_and] at h;rw[h.1,h.2]
theorem cnt_keys {es:Array MapEntry}{cl:Nat}{n:Int×Int->Nat}(h:MapOk es cl (cntF n)):∀e∈es.toList,∃p,0<n p/\e.key=prtP p/\e.val=.int .i64 (n p:Nat):=fun e he=>
 (h.mem e.key e.val).2 ⟨e,he,rfl,rfl⟩
theorem cnt_flat {es:Array MapEntry}{cl:Nat}{n:Int×Int->Nat}(h:MapOk es cl (cntF n)):∀e∈es.toList,KeyFl en 2 56 e.key:=fun e he=> by
 obtain⟨p,_,h2,_⟩:=cnt_keys h e he;rw[h2];exact prt_key p
theorem cnt_found {es:Array MapEntry}{cl:Nat}{n:Int×Int->Nat}(h:MapOk es cl (cntF n)){p:Int×Int}{r:Option (Nat×Value)}(hr:FindOk es.toList (prtP p) r):foundV (.int .i64 0) r false=.int .i64 (n p:Nat):=by
 have h1:=h.find hr;cases r with
 | none=>
  have:n p=0:=by
   apply Nat.eq_zero_of_not_pos
   intro hp;exact h1 (.int .i64 (n p:Nat)) ⟨p,hp,rfl,rfl⟩
  rw[this];rfl
 | some q=>
  obtain⟨i,v⟩:=q;obtain⟨q,_,h3,h4⟩:=h1;have:=prt_inj h3;subst this;exact h4
theorem cnt_flat2 {es:Array MapEntry}{cl:Nat}{n:Int×Int->Nat}(h:MapOk es cl (cntF n))(p:Int×Int)(z:Value)(r:Option (Nat×Value)):∀e∈(mapHold es cl (prtP p) z r).1.toList,KeyFl en 2 56 e.key:=fun e he=> by
 cases r with
 | some _=> exact cnt_flat h e he
 | none=>
  simp only[mapHold,Array.toList_push,List.mem_append,List.mem_singleton] at he;rcases he with he|rfl
  ·exact cnt_flat h e he
  ·exact prt_key p
theorem cnt_found2 {es:Array MapEntry}{cl:Nat}{n:Int×Int->Nat}(h:MapOk es cl (cntF n)){p:Int×Int}{r:Option (Nat×Value)}(hr:FindOk es.toList (prtP p) r){r':Option (Nat×Value)}(hr':FindOk (mapHold es cl (prtP p) (.int .i64 0) r).1.toList (prtP p) r'):foundV (.int .i64 0) r' false=.int .i64 (n p:Nat):=by
 cases r with
 | some q=> exact cnt_found h hr'
 | none=>
  have h0:n p=0:=by
   have:=cnt_found h hr;simp only[foundV,Value.int.injEq,true_and] at this;omega
  rw[h0];cases r' with
  | none=> rfl
  | some q=>
   obtain⟨i,v⟩:=q;obtain⟨e,he,h1,h2⟩:=hr';simp only[mapHold,Array.toList_push] at he;have:=List.mem_of_getElem? he;rw[List.mem_append,List.mem_singleton] at this;rcases this with h3|rfl
   ·exact(hr e h3 h1).elim
   ·exact h2.symm
theorem cntF_put(p:Int×Int)(n:Int×Int->Nat)(w:Nat)(hw:0<w)(kv v:Value):cntF (fun q=> if q=p then w else n q) kv v<->(kv=prtP p/\v=.int .i64 (w:Nat))\/(kv≠prtP p/\cntF n kv v):=by
 constructor
 ·rintro⟨q,h1,h2,h3⟩;by_cases e:q=p
  ·subst e;simp only[if_true] at h3;exact .inl ⟨h2,h3⟩
  ·simp only[if_neg e] at h1 h3;exact .inr ⟨fun h=> e (prt_inj (h2.symm.trans h)),q,h1,h2,h3⟩
 ·rintro(⟨h1,h2⟩|⟨h1,q,h2,h3,h4⟩)
  ·exact⟨p,by simp only[if_true];exact hw,h1,by simp only[if_true];exact h2⟩
  ·have e:q≠p:=fun e=> h1 (by rw[h3,e]);exact⟨q,by simp only[if_neg e];exact h2,h3,by simp only[if_neg e];exact h4⟩
theorem PartsAt.pre {H:View}{P:Option Addr}{n k:Nat}{x y:Nat->Int}(h:PartsAt H P n x y)(hk:k<=n):PartsAt H P k x y:=by
 rcases h with h|⟨b,o,f,gs,gt,gz,h1,h2,h3⟩
 ·exact .inl oM
 ·exact .inr ⟨b,o,f,gs,gt,gz,h1,h2,fun j hj=> h3 j oM⟩
def cameL(c:Nat->Nat):List Value:= [.int .i64 (c 0:Nat),.int .i64 (c 1:Nat),.int .i64 (c 2:Nat),.int .i64 (c 3:Nat)]
def cameV(c:Nat->Nat):Value:=.agg ⟨cameL c⟩
theorem cameL_at(c:Nat->Nat){i:Nat}(hi:i<4):ldL false 1 (cameL c) (0+(i:Int).toNat*1)=some (.int .i64 (c i:Nat)):=by
 match i,hi with
 | 0,_=> rfl
 | 1,_=> rfl
 | 2,_=> rfl
 | 3,_=> rfl
def Sb.few(b:Sb):Prop:=b.ns<=4/\∀i,i<b.ns->b.np i<=1000
section
variable(M:Md prog)(H:View)
theorem copies_c(b:Sb)(a:Sa)(hb:SbAt H b a)(hf:b.few)(u:Nat->Nat)(hc:∀i,i<b.ns->u i<=b.np i):
  CallT M 131 #[b.val a,cameV u] H (fun v H'=> H.le H'/\∃m es cl,v=.map (some m)/\(∃f,H' m=some (f,.map es cl))/\H m=none/\MapOk es cl (cntF fun p=> cntS b u p b.ns)):=by
 obtain⟨hns,hnp⟩:=hf;have hc1:∀k,k<b.ns->u k<=1000:=fun k hk=> Nat.le_trans (hc k hk) (hnp k hk);refine .en func131 ntmps131 fun St c cs hK=> ?_;refine U2 ?_;refine .bo fun b2=> ?_;refine .bo fun b3=> ?_;refine U4 ?_;refine .e (Or.makeMap rfl rfl dE (fun mm=> ?_));refine U12 ?_;refine Tc.db (Tc.loopInv (σ:= { s:Nat×Array MapEntry×Nat//s.1<=b.ns/\MapOk s.2.1 s.2.2 (cntF fun p=> cntS b u p s.1) })
  (fun s=> ([(2,.pointer (some ⟨b2,0,none⟩)),(3,.pointer (some ⟨b3,0,none⟩)),(5,.map (some mm)),(13,.slice a.S b.ns a.sc),(14,.int .i64 (b.ns:Nat)),(15,.int .i64 (s.1.1:Nat))],[(mm,true,.map s.1.2.1 s.1.2.2),(b3,true,.cells ⟨cameL u⟩ 222 (0,0)),(b2,true,.cells ⟨(b.val a).cells.toList⟩ 98 (0,0))])) (fun s=> b.ns-s.1.1) ?_ ⟨(0,#[],0),Nat.zero_le _,MapOk.nil.congr (by rintro x y;simp[cntF,cntS])⟩)
 rintro⟨⟨i,es,cl⟩,g1,g2⟩ ih₁;simp only at g1 g2;show Tc M St _ _ H _ [(2,.pointer (some ⟨b2,0,none⟩)),(3,.pointer (some ⟨b3,0,none⟩)),(5,.map (some mm)),(13,.slice a.S b.ns a.sc),(14,.int .i64 (b.ns:Nat)),(15,.int .i64 (i:Nat))] [(mm,true,.map es cl),(b3,true,.cells ⟨cameL u⟩ 222 (0,0)),(b2,true,.cells ⟨(b.val a).cells.toList⟩ 98 (0,0))] _ _;by_cases c0:i=b.ns
 ·subst c0;refine U12 ?_;refine .rt hK func131 results131 [_] ?_;exact fun H' hs=> ⟨hs.base,mm,es,cl,rfl,⟨true,hs.get (i:=0) rfl⟩,hs.fresh (i:=0) rfl,g2⟩
 ·have c1 :i<b.ns:=by omega
  obtain⟨_,h0|⟨sk,so,sf,sg,st,sz,e1,e2,e3⟩⟩:=hb.sess
  ·omega
  obtain⟨P,pc,f1,hpc,hP⟩:=e3 i c1;have hci:=hc i c1;have hcn:=hnp i c1;have f2:=cameL_at u (i:=i) oM;have hP':=hP.pre hci;rw[e1];refine U14 ?_;refine .al fun b7=> ?_;refine U4 ?_;refine Tc.dr [] [] mixed rfl ?_;refine V5 0 ?_;refine .q 5 rfl (OpV.sliceH (E:=en) rfl rfl rfl rfl rfl rfl oM) ?_;refine V2 6 ?_;refine .dn ?_;refine U ?_;refine Tc.db (Tc.loopInv (σ:= { s:Nat×Array MapEntry×Nat//s.1<=u i/\MapOk s.2.1 s.2.2 (cntF fun p=> cntS b u p i+cntP (b.pm i) (b.pg i) p s.1) })
   (fun s=> ([(2,.pointer (some ⟨b2,0,none⟩)),(3,.pointer (some ⟨b3,0,none⟩)),(5,.map (some mm)),(13,.slice (some ⟨sk,so,none⟩) b.ns a.sc),(14,.int .i64 (b.ns:Nat)),(15,.int .i64 (i:Nat)),(25,.slice P (u i) pc),(26,.int .i64 (u i:Nat)),(27,.int .i64 (s.1.1:Nat))],[(mm,true,.map s.1.2.1 s.1.2.2),(b3,true,.cells ⟨cameL u⟩ 222 (0,0)),(b2,true,.cells ⟨(b.val a).cells.toList⟩ 98 (0,0))])) (fun s=> u i-s.1.1) ?_ ⟨(0,es,cl),Nat.zero_le _,g2⟩)
  rintro⟨⟨j,es1,cl1⟩,q1,q2⟩ ih₂;simp only at q1 q2;show Tc M St _ _ H _ [(2,.pointer (some ⟨b2,0,none⟩)),(3,.pointer (some ⟨b3,0,none⟩)),(5,.map (some mm)),(13,.slice (some ⟨sk,so,none⟩) b.ns a.sc),(14,.int .i64 (b.ns:Nat)),(15,.int .i64 (i:Nat)),(25,.slice P (u i) pc),(26,.int .i64 (u i:Nat)),(27,.int .i64 (j:Nat))] [(mm,true,.map es1 cl1),(b3,true,.cells ⟨cameL u⟩ 222 (0,0)),(b2,true,.cells ⟨(b.val a).cells.toList⟩ 98 (0,0))] _ _;by_cases d0:j=u i
  ·subst d0;refine U12 ?_;rw[<-e1];exact Tc.db (ih₁ ⟨(i+1,es1,cl1),by simp only;omega,q2⟩ (by simp only;omega))
  ·have d1:j<u i:=by omega
   rcases hP' with h0|⟨pb,po,pf,pgs,pgt,pgz,rfl,p2,p3⟩
   ·omega
   have f3:=p3 j d1;have hle1:=cntS_le (b:=b) (c:=u) (p:=(b.pm i j,b.pg i j)) i fun k hk=> hc1 k oM;have hle2:=cntP_le (b.pm i) (b.pg i) (b.pm i j,b.pg i j) j;obtain⟨w,hw⟩:∃w,cntS b u (b.pm i j,b.pg i j) i+cntP (b.pm i) (b.pg i) (b.pm i j,b.pg i j) j=w:=⟨_,rfl⟩
   have hadd:intBin .add .i64 ((w:Nat):Int) 1=some (.int .i64 ((w+1:Nat):Int)):=by
    rw[add_in oM oM];rfl
   have hfnd:∀r,FindOk es1.toList (prtV (b.pm i j) (b.pg i j)) r->foundV (.int .i64 0) r false=.int .i64 (w:Nat):=fun r hr=> by
    rw[<-hw];exact cnt_found q2 (p:=(b.pm i j,b.pg i j)) hr
   have hfnd2:∀r,FindOk es1.toList (prtV (b.pm i j) (b.pg i j)) r->∀r',FindOk (mapHold es1 cl1 (prtV (b.pm i j) (b.pg i j)) (.int .i64 0) r).1.toList (prtV (b.pm i j) (b.pg i j)) r'->foundV (.int .i64 0) r' false=.int .i64 (w:Nat):=fun r hr r' hr'=> by
    rw[<-hw];exact cnt_found2 q2 (p:=(b.pm i j,b.pg i j)) hr hr'
   have hput:∀r,FindOk es1.toList (prtV (b.pm i j) (b.pg i j)) r->∃es2 cl2,mapPut es1 cl1 (prtV (b.pm i j) (b.pg i j)) (.int .i64 ((w+1:Nat):Int)) r=.map es2 cl2/\MapOk es2 cl2 (cntF fun p=> cntS b u p i+cntP (b.pm i) (b.pg i) p (j+1)):=fun r hr=> by
    obtain⟨es2,cl2,h1,h2⟩:=q2.put (.int .i64 ((w+1:Nat):Int)) hr;refine⟨es2,cl2,h1,h2.congr fun x y=> ?_⟩;have h3:(fun p=> cntS b u p i+cntP (b.pm i) (b.pg i) p (j+1))=fun q=> if q=(b.pm i j,b.pg i j) then w+1 else cntS b u q i+cntP (b.pm i) (b.pg i) q j:=by
     funext q
     obtain⟨qa,qb⟩:=q;show cntS b u (qa,qb) i+(cntP (b.pm i) (b.pg i) (qa,qb) j+if b.pm i j=qa/\b.pg i j=qb then 1 else 0)=_;by_cases e:b.pm i j=qa/\b.pg i j=qb
     ·obtain⟨rfl,rfl⟩:=e;rw[if_pos ⟨rfl,rfl⟩,if_pos rfl,<-hw];omega
     ·rw[if_neg e,if_neg (fun h=> e (by cases h;exact⟨rfl,rfl⟩))];rfl
    rw[h3];exact cntF_put (b.pm i j,b.pg i j) _ _ oM x y
   refine U13 ?_;refine .al fun b9=> ?_;refine U2 ?_;refine Tc.via (fun R' L'=> AllIn [(2,.pointer (some ⟨b2,0,none⟩)),(3,.pointer (some ⟨b3,0,none⟩)),(5,.map (some mm)),(13,.slice (some ⟨sk,so,none⟩) b.ns a.sc),(14,.int .i64 (b.ns:Nat)),(15,.int .i64 (i:Nat)),(25,.slice (some ⟨pb,po,none⟩) (u i) pc),(26,.int .i64 (u i:Nat)),(27,.int .i64 (j:Nat))] R'/\∃es2 cl2,MapOk es2 cl2 (cntF fun p=> cntS b u p i+cntP (b.pm i) (b.pg i) p (j+1))/\([(mm,true,.map es2 cl2),(b3,true,.cells ⟨cameL u⟩ 222 (0,0)),(b2,true,.cells ⟨(b.val a).cells.toList⟩ 98 (0,0))]:Bl).Sublist L') ?_ (fun fin=> ?_)
   ·rintro R' L' ⟨hR',es2,cl2,q3,hL'⟩;refine Tc.dropB (R':= [(2,.pointer (some ⟨b2,0,none⟩)),(3,.pointer (some ⟨b3,0,none⟩)),(5,.map (some mm)),(13,.slice (some ⟨sk,so,none⟩) b.ns a.sc),(14,.int .i64 (b.ns:Nat)),(15,.int .i64 (i:Nat)),(25,.slice (some ⟨pb,po,none⟩) (u i) pc),(26,.int .i64 (u i:Nat)),(27,.int .i64 (j:Nat))]) (L':= [(mm,true,.map es2 cl2),(b3,true,.cells ⟨cameL u⟩ 222 (0,0)),(b2,true,.cells ⟨(b.val a).cells.toList⟩ 98 (0,0))]) ?_ hR' hL';refine U5 ?_;exact Tc.db (ih₂ ⟨(j+1,es2,cl2),by simp only;omega,q3⟩ (by simp only;omega))
   ·refine Tc.dr [4,6] [1] mixed rfl ?_;refine V2 0 ?_;refine Ta.each [2,4] kR rfl ⟨TaOp.mk rfl rfl rfl (Or.ofV (OpV.lookup (E:=en) 2 (es:=es1) (v:=.int .i64 (w:Nat)) rfl rfl rfl (fun H hs=> ⟨true,hs.get (i:=1) rfl⟩) rfl rfl rfl dE (prt_key (b.pm i j,b.pg i j)) (cnt_flat q2) hfnd) rfl dE ⟨S2.mk sL (.inr sL),?_⟩),TaOp.mk rfl rfl rfl (Or.mapEntry (E:=en) 1 2 rfl rfl rfl rfl rfl rfl rfl dE (prt_key (b.pm i j,b.pg i j)) (cnt_flat q2) rfl dE (fun r hr=> ⟨S2.mk sL (.inl kR),?_⟩)),trivial⟩
    ·refine .nw 3 ?_;refine .ea 4 rfl (Or.mapEntry (E:=en) 1 2 rfl rfl rfl rfl rfl rfl rfl dE (prt_key (b.pm i j,b.pg i j)) (cnt_flat q2) rfl dE (fun r hr=> ⟨S2.mk sL (.inl kR),?_⟩));refine .nw 5 ?_;refine .ea 6 rfl (Or.entryStore 1 (zv:=.int .i64 0) rfl rfl rfl rfl rfl hr q2.borns q2.lt rfl ⟨S2.mk sL (.inl kR),?_⟩);refine .dn ?_;obtain⟨es2,cl2,w1,w2⟩:=hput r hr;exact fin _ _ ⟨⟨rfl,rfl,rfl,rfl,rfl,rfl,rfl,rfl,rfl,trivial⟩,es2,cl2,w2,by rw[<-w1];exact sL⟩
    ·refine .nw 5 ?_;refine .ea 2 rfl (Or.ofV (OpV.lookup (E:=en) 2 (es:=(mapHold es1 cl1 (prtV (b.pm i j) (b.pg i j)) (.int .i64 0) r).1) (v:=.int .i64 (w:Nat)) rfl rfl rfl (fun H hs=> ⟨true,hs.get (i:=1) rfl⟩) rfl rfl rfl dE (prt_key (b.pm i j,b.pg i j)) (cnt_flat2 q2 (b.pm i j,b.pg i j) _ _) (hfnd2 r hr)) rfl dE ⟨S2.mk sL (.inl kR),?_⟩);refine .nw 3 ?_;refine .ea 6 rfl (Or.entryStore 1 (zv:=.int .i64 0) rfl rfl rfl rfl rfl hr q2.borns q2.lt rfl ⟨S2.mk sL (.inl kR),?_⟩);refine .dn ?_;obtain⟨es2,cl2,w1,w2⟩:=hput r hr;exact fin _ _ ⟨⟨rfl,rfl,rfl,rfl,rfl,rfl,rfl,rfl,rfl,trivial⟩,es2,cl2,w2,by rw[<-w1];exact sL⟩
end
def keyMsg(v:Value):Int:=match v with
 | .agg ⟨[.int _ m,_]⟩=> m
 | _=> 0
def haveN(n:Int×Int->Nat)(m:Int)(G:Nat):Nat:=(List.range G).countP fun g=> decide (0<n (m,(g:Nat)))
theorem have_len {es:Array MapEntry}{cl:Nat}{n:Int×Int->Nat}(h:MapOk es cl (cntF n)){m:Int}{G:Nat}(hG:∀p:Int×Int,0<n p->p.1=m->0<=p.2/\p.2<G):
  es.toList.countP (fun e=> keyMsg e.key==m)=haveN n m G:=by
 have h1:es.toList.countP (fun e=> keyMsg e.key==m)=((es.toList.map (·.key)).filter fun v=> keyMsg v==m).length:=by
  rw[<-List.countP_eq_length_filter,List.countP_map];rfl
 have h2:haveN n m G=(((List.range G).filter fun g=> decide (0<n (m,(g:Nat)))).map fun g=> prtP (m,(g:Nat))).length:=by
  rw[List.length_map,<-List.countP_eq_length_filter];rfl
 rw[h1,h2];refine List.Perm.length_eq ?_;rw[List.perm_ext_iff_of_nodup (h.keys.filter _) (List.Pairwise.map _ (fun a b hab=> by
  intro h3;have:=prt_inj h3;simp only[Prod.mk.injEq,true_and] at this;omega) ((List.nodup_range).filter _))]
 intro v;rw[List.mem_filter,List.mem_map,List.mem_map];constructor
 ·rintro⟨⟨e,he,rfl⟩,hk⟩;obtain⟨p,p1,p2,_⟩:=cnt_keys h e he;rw[p2] at hk ⊢;obtain⟨a,b⟩:=p;have ha:a=m:=by simpa [prtP,prtV,keyMsg] using hk
  subst ha;obtain⟨q1,q2⟩:=hG (a,b) p1 rfl;obtain⟨g,rfl⟩:∃g:Nat,b=g:=⟨b.toNat,by simp only at q1;omega⟩
  refine⟨g,List.mem_filter.2 ⟨List.mem_range.2 (by simp only at q2;omega),decide_eq_true p1⟩,rfl⟩
 ·rintro⟨g,hg,rfl⟩;have hg2:=(List.mem_filter.1 hg).2;rw[decide_eq_true_eq] at hg2;obtain⟨e,he,h3,_⟩:=(h.mem (prtP (m,(g:Nat))) (.int .i64 (n (m,(g:Nat)):Nat))).1 ⟨_,hg2,rfl,rfl⟩;exact⟨⟨e,he,h3⟩,by simp[prtP,prtV,keyMsg]⟩
section
variable(M:Md prog)(H:View)
theorem have_c(b:Sb)(a:Sa)(hb:SbAt H b a)(hf:b.few)(u:Nat->Nat)(hu:∀i,i<b.ns->u i<=b.np i)(m:Int)(G:Nat)(hG:∀p:Int×Int,0<cntS b u p b.ns->p.1=m->0<=p.2/\p.2<G)(hG2:G<=1000):
  CallT M 245 #[b.val a,cameV u,.int .i64 m] H (fun v H'=> H.le H'/\v=.int .i64 (haveN (fun p=> cntS b u p b.ns) m G:Nat)):=by
 refine .en func245 ntmps245 fun St c cs hK=> ?_;refine U2 ?_;refine .bo fun b3=> ?_;refine .bo fun b4=> ?_;refine U11 ?_;refine To.callF rfl rfl rfl rfl rfl rfl dE (FnT.h (copies_c M H b a hb hf u hu)) (fun v H₁ hv=> ?_);obtain⟨hle,mm,es,cl,rfl,⟨fm,q3⟩,hnone,q4⟩:=hv;have hlen:=have_len q4 hG;have hN:haveN (fun p=> cntS b u p b.ns) m G<=1000:=Nat.le_trans List.countP_le_length (by simp[hG2]);obtain⟨N,hNe⟩:∃N,haveN (fun p=> cntS b u p b.ns) m G=N:=⟨_,rfl⟩
 rw[hNe] at hlen hN hK;refine .e (Or.range (E:=en) (es:=es) (cl:=cl) rfl rfl (fun H hs=> ⟨fm,hs.base _ _ q3⟩) rfl rfl rfl dE (fun it=> ?_));refine U2 ?_;refine Tc.db (Tc.loopInv (σ:= { s:Array Nat×Nat//s.2+(unseen es s.1).countP (fun e=> keyMsg e.key==m)=N })
  (fun s=> ([(2,.int .i64 m),(7,.int .i64 (s.1.2:Nat)),(12,.pointer (some ⟨it,0,none⟩))],[(it,true,.mapIter (some mm) cl s.1.1 cl)])) (fun s=> (unseen es s.1.1).length) ?_ ⟨(#[],0),by rw[unseen_start];simp only;omega⟩)
 rintro⟨⟨seen,k⟩,g1⟩ ih;simp only at g1;show Tc M St _ _ H₁ _ [(2,.int .i64 m),(7,.int .i64 (k:Nat)),(12,.pointer (some ⟨it,0,none⟩))] [(it,true,.mapIter (some mm) cl seen cl)] _ _;refine U2 ?_;refine .e (Or.next (es:=es) 0 rfl rfl rfl (fun H hs=> ⟨fm,hs.base _ _ q3⟩) q4.lt rfl dE (fun me he hse=> ?_) (fun hall=> ?_))
 ·have hp:=unseen_next q4.borns he hse;obtain⟨⟨pa,pb⟩,u1,u2,u3⟩:=cnt_keys q4 me he;have hfind:=map_find q4 he;have hcp:(unseen es seen).countP (fun e=> keyMsg e.key==m)=(unseen es (seen.push me.born)).countP (fun e=> keyMsg e.key==m)+if pa=m then 1 else 0:=by
   rw[hp.countP_eq,List.countP_cons,u2];simp[prtP,prtV,keyMsg]
  rw[hcp] at g1;refine U8 ?_;refine .e (Or.entry (es:=es) (e:=me) (st:=me.born) rfl rfl (fun H hs=> ⟨true,hs.get (i:=0) rfl⟩) (fun H hs=> ⟨fm,hs.base _ _ q3⟩) (by simp) hfind rfl dE ?_);rw[u2];by_cases c0:pa=m
  ·rw[if_pos c0] at g1;subst c0;have hadd:intBin .add .i64 ((k:Nat):Int) 1=some (.int .i64 ((k+1:Nat):Int)):=by
    rw[add_in oM oM];rfl
   refine U ?_;refine .al fun b8=> ?_;refine U16 ?_;exact Tc.db (ih ⟨(seen.push me.born,k+1),by simp only;omega⟩ (by simp only;rw[hp.length_eq];simp))
  ·rw[if_neg c0] at g1;refine U ?_;refine .al fun b8=> ?_;refine U12 ?_;exact Tc.db (ih ⟨(seen.push me.born,k),by simp only;omega⟩ (by simp only;rw[hp.length_eq];simp))
 ·have hnil:=unseen_done hall;rw[hnil] at g1;simp only[List.countP_nil,Nat.add_zero] at g1;subst g1;refine U10 ?_;refine .rt hK func245 results245 [_] ?_;exact fun H' hs=> ⟨View.le_trans hle hs.base,rfl⟩
end
def Sb.right(b:Sb)(u:Nat->Nat)(k x y m:Int):Bool:=
 if k=0 then decide ((u x.toNat:Int)=b.np x.toNat)
 else if k=1 then decide (u x.toNat<b.np x.toNat)
 else if k=2 then decide (m<=(u x.toNat:Int))
 else if k=3 then decide ((u x.toNat:Int)<=m)
 else if k=4 then decide ((cntS b u (x,y) b.ns:Int)=m)
 else decide ((haveN (fun p=> cntS b u p b.ns) x (b.gr x.toNat).toNat:Int)=m)
def Sb.recOk(b:Sb)(k x y m:Int):Prop:=
 0<=k/\k<=5/\(k≠4->y=0)/\(k=0\/k=1->m=0)/\0<=m/\(k<=3->0<=x/\x<b.ns/\m<=b.np x.toNat)/\(k=4->b.isPart x y=true/\m<=b.ns)/\(k=5->0<=x/\x<b.nm/\m<=b.gr x.toNat)
def Sb.partsIn(b:Sb):Prop:=∀i,i<b.ns->∀j,j<b.np i->b.isPart (b.pm i j) (b.pg i j)=true
theorem cntP_pos {x y:Nat->Int}{p:Int×Int}:∀j,0<cntP x y p j->∃k,k<j/\x k=p.1/\y k=p.2
 | 0,h=> by cases h
 | j + 1,h=> by
  unfold cntP at h;by_cases e:x j=p.1/\y j=p.2
  ·exact⟨j,oM,e.1,e.2⟩
  ·rw[if_neg e] at h;obtain⟨k,h1,h2⟩:=cntP_pos j oM;exact⟨k,oM,h2⟩
theorem cntS_pos {b:Sb}{u:Nat->Nat}{p:Int×Int}:∀i,0<cntS b u p i->∃s k,s<i/\k<u s/\b.pm s k=p.1/\b.pg s k=p.2
 | 0,h=> by cases h
 | i + 1,h=> by
  unfold cntS at h;by_cases e:0<cntP (b.pm i) (b.pg i) p (u i)
  ·obtain⟨k,h1,h2⟩:=cntP_pos _ e;exact⟨i,k,oM,h1,h2⟩
  ·obtain⟨s,k,h1,h2⟩:=cntS_pos (b:=b) (u:=u) (p:=p) i oM;exact⟨s,k,oM,h2⟩
theorem Sb.in_groups {b:Sb}(h:b.partsIn){u:Nat->Nat}(hu:∀i,i<b.ns->u i<=b.np i)(m:Int):∀p:Int×Int,0<cntS b u p b.ns->p.1=m->0<=p.2/\p.2<((b.gr m.toNat).toNat:Nat):=by
 intro p hp hm;obtain⟨s,k,h1,h2,h3,h4⟩:=cntS_pos _ hp;have:=h s h1 k (Nat.lt_of_lt_of_le h2 (hu s h1));unfold Sb.isPart at this;rw[Bool.and_eq_true,decide_eq_true_eq,decide_eq_true_eq,h3,h4,hm] at this;omega
def rightI(k:Nat):Nat:= [237,238,239,240,242,244].getD k 0
def rightF(k:Nat):Value:=.func (.func (rightI k)) #[] #[]
section
variable(M:Md prog)(H:View)
theorem right_c(b:Sb)(a:Sa)(hb:SbAt H b a)(hf:b.few)(hin:b.partsIn)(hgr:∀i,i<b.nm->b.gr i<=1000)(u:Nat->Nat)(hu:∀i,i<b.ns->u i<=b.np i)(k:Nat)(x y m:Int)(hr:b.recOk k x y m):
  FnT M (rightF k) [b.val a,cameV u,recV k x y m] H (fun v H'=> H.le H'/\v=.bool (b.right u k x y m)):=by
 obtain⟨_,h5,_,_,_,r3,r4,r5⟩:=hr;have hns:=hf.1
 match k,h5 with
 | 0,_=>
  obtain⟨x0,x1,_⟩:=r3 oM;obtain⟨i,rfl⟩:∃i:Nat,x=i:=⟨x.toNat,oM⟩
  have c1:i<b.ns:=by omega
  obtain⟨_,h0|⟨sk,so,sf,sg,st,sz,e1,e2,e3⟩⟩:=hb.sess
  ·omega
  obtain⟨P,pc,f1,hpc,hP⟩:=e3 i c1;have f3:ldL false 1 sg (so+((i:Nat):Int).toNat*1+0)=some (.slice P (b.np i) pc):=ldL_cell f1 dE;have f2:=cameL_at u (i:=i) oM;have e:intBin .eql .i64 ((u i:Nat):Int) ((b.np i:Nat):Int)=some (.bool (decide (((u i:Nat):Int)=(b.np i:Nat)))):=by
   by_cases c:((u i:Nat):Int)=(b.np i:Nat)
   ·rw[decide_eq_true c];exact eql_t c
   ·rw[decide_eq_false c];exact eql_f c
  have hv:b.right u ((0:Nat):Int) i y m=decide (((u i:Nat):Int)=(b.np i:Nat)):=rfl;rw[hv];refine FnT.f ca237 rfl ?_;obtain⟨aA,mc,aS,sc,aR,rc⟩:=a;simp only at e1;subst e1;refine .en func237 ntmps237 fun St c cs hK=> ?_;refine U2 ?_;refine .bo fun b3=> ?_;refine .bo fun b4=> ?_;refine .bo fun b5=> ?_;refine U3 ?_;refine Tc.dr [] [] mixed rfl ?_;refine V15 0 ?_;refine .dn ?_;refine .rt hK func237 results237 [_] ?_;exact okB
 | 1,_=>
  obtain⟨x0,x1,_⟩:=r3 oM;obtain⟨i,rfl⟩:∃i:Nat,x=i:=⟨x.toNat,oM⟩
  have c1:i<b.ns:=by omega
  obtain⟨_,h0|⟨sk,so,sf,sg,st,sz,e1,e2,e3⟩⟩:=hb.sess
  ·omega
  obtain⟨P,pc,f1,hpc,hP⟩:=e3 i c1;have f3:ldL false 1 sg (so+((i:Nat):Int).toNat*1+0)=some (.slice P (b.np i) pc):=ldL_cell f1 dE;have f2:=cameL_at u (i:=i) oM;have e:intBin .lss .i64 ((u i:Nat):Int) ((b.np i:Nat):Int)=some (.bool (decide (u i<b.np i))):=by
   by_cases c:u i<b.np i
   ·rw[decide_eq_true c];exact lss_t oM
   ·rw[decide_eq_false c];exact lss_f oM
  have hv:b.right u ((1:Nat):Int) i y m=decide (u i<b.np i):=rfl;rw[hv];refine FnT.f ca238 rfl ?_;obtain⟨aA,mc,aS,sc,aR,rc⟩:=a;simp only at e1;subst e1;refine .en func238 ntmps238 fun St c cs hK=> ?_;refine U2 ?_;refine .bo fun b3=> ?_;refine .bo fun b4=> ?_;refine .bo fun b5=> ?_;refine U3 ?_;refine Tc.dr [] [] mixed rfl ?_;refine V15 0 ?_;refine .dn ?_;refine .rt hK func238 results238 [_] ?_;exact okB
 | 2,_=>
  obtain⟨x0,x1,_⟩:=r3 oM;obtain⟨i,rfl⟩:∃i:Nat,x=i:=⟨x.toNat,oM⟩
  have f2:=cameL_at u (i:=i) oM;have e:intBin .geq .i64 ((u i:Nat):Int) m=some (.bool (decide (m<=((u i:Nat):Int)))):=by
   by_cases c:m<=((u i:Nat):Int)
   ·rw[decide_eq_true c];exact geq_t c
   ·rw[decide_eq_false c];exact geq_f oM
  have hv:b.right u ((2:Nat):Int) i y m=decide (m<=((u i:Nat):Int)):=rfl;rw[hv];refine FnT.f ca239 rfl ?_;refine .en func239 ntmps239 fun St c cs hK=> ?_;refine U2 ?_;refine .bo fun b3=> ?_;refine .bo fun b4=> ?_;refine .bo fun b5=> ?_;refine U3 ?_;refine Tc.dr [] [] mixed rfl ?_;refine V8 0 ?_;refine .dn ?_;refine .rt hK func239 results239 [_] ?_;exact okB
 | 3,_=>
  obtain⟨x0,x1,_⟩:=r3 oM;obtain⟨i,rfl⟩:∃i:Nat,x=i:=⟨x.toNat,oM⟩
  have f2:=cameL_at u (i:=i) oM;have e:intBin .leq .i64 ((u i:Nat):Int) m=some (.bool (decide (((u i:Nat):Int)<=m))):=by
   by_cases c:((u i:Nat):Int)<=m
   ·rw[decide_eq_true c];exact leq_t c
   ·rw[decide_eq_false c];exact leq_f oM
  have hv:b.right u ((3:Nat):Int) i y m=decide (((u i:Nat):Int)<=m):=rfl;rw[hv];refine FnT.f ca240 rfl ?_;refine .en func240 ntmps240 fun St c cs hK=> ?_;refine U2 ?_;refine .bo fun b3=> ?_;refine .bo fun b4=> ?_;refine .bo fun b5=> ?_;refine U3 ?_;refine Tc.dr [] [] mixed rfl ?_;refine V8 0 ?_;refine .dn ?_;refine .rt hK func240 results240 [_] ?_;exact okB
 | 4,_=>
  have e:intBin .eql .i64 ((cntS b u (x,y) b.ns:Nat):Int) m=some (.bool (decide (((cntS b u (x,y) b.ns:Nat):Int)=m))):=by
   by_cases c:((cntS b u (x,y) b.ns:Nat):Int)=m
   ·rw[decide_eq_true c];exact eql_t c
   ·rw[decide_eq_false c];exact eql_f c
  have hv:b.right u ((4:Nat):Int) x y m=decide (((cntS b u (x,y) b.ns:Nat):Int)=m):=rfl;rw[hv];refine FnT.f ca242 rfl ?_;refine .en func242 ntmps242 fun St c cs hK=> ?_;refine U2 ?_;refine .bo fun b3=> ?_;refine .bo fun b4=> ?_;refine .bo fun b5=> ?_;refine U3 ?_;refine Tc.dr [] [] mixed rfl ?_;refine V2 0 ?_;refine V5 3 ?_;refine V2 9 ?_;refine Ta.callL 2 kR rfl rfl rfl rfl rfl rfl rfl dE (FnT.h (copies_c M H b a hb hf u hu)) (by intro _ _ hh;exact hh.1) sL (.inr sL) (fun v H₁ hv=> ?_);obtain⟨hle,mm,es,cl,rfl,⟨fm,q3⟩,hnone,q4⟩:=hv;refine .ea 8 rfl (Or.ofV (OpV.lookup (E:=en) 2 (es:=es) (v:=.int .i64 (cntS b u (x,y) b.ns:Nat)) rfl rfl rfl (fun H hs=> ⟨fm,hs.base _ _ q3⟩) rfl rfl rfl dE (prt_key (x,y)) (cnt_flat q4) (fun r hr=> cnt_found q4 (p:=(x,y)) hr)) rfl dE ⟨S2.mkL (by assumption) sL (.inr sL),?_⟩);refine .ea 11 rfl (Or.ofV (.it (zz:=(by assumption))) rfl dE ⟨S2.mkL (by assumption) sL (.inr sL),?_⟩);refine .ea 12 rfl (Or.ofV .sg rfl dE ⟨S2.mkL (by assumption) sL (.inr sL),?_⟩);refine .dn ?_;refine .rt hK func242 results242 [_] ?_;exact fun H' hs=> ⟨View.le_trans hle hs.base,rfl⟩
 | 5,_=>
  obtain⟨x0,x1,_⟩:=r5 rfl;have e:intBin .eql .i64 ((haveN (fun p=> cntS b u p b.ns) x (b.gr x.toNat).toNat:Nat):Int) m=some (.bool (decide (((haveN (fun p=> cntS b u p b.ns) x (b.gr x.toNat).toNat:Nat):Int)=m))):=by
   by_cases c:((haveN (fun p=> cntS b u p b.ns) x (b.gr x.toNat).toNat:Nat):Int)=m
   ·rw[decide_eq_true c];exact eql_t c
   ·rw[decide_eq_false c];exact eql_f c
  have hv:b.right u ((5:Nat):Int) x y m=decide (((haveN (fun p=> cntS b u p b.ns) x (b.gr x.toNat).toNat:Nat):Int)=m):=rfl;rw[hv];have hg:=hgr x.toNat oM;have hh:=fun(H':View) (h':H.le H')=> have_c M H' b a (hb.le h') hf u hu x (b.gr x.toNat).toNat (Sb.in_groups hin hu x) oM;refine FnT.f ca244 rfl ?_;refine .en func244 ntmps244 fun St c cs hK=> ?_;refine U2 ?_;refine .bo fun b3=> ?_;refine .bo fun b4=> ?_;refine .bo fun b5=> ?_;refine U3 ?_;refine Tc.dr [] [] mixed rfl ?_;refine V4 0 ?_;refine .z 4 rfl (OpV.tk fun H hs=> hh H hs.base) ?_;refine V4 5 ?_;refine .dn ?_;refine .rt hK func244 results244 [_] ?_;exact okB
end
def kindsL:List Value:= [strV [97,108,108],.bool false,.bool false,.func (.func 236) #[] #[],.func (.func 237) #[] #[],
 strV [98,114,111,107,101],.bool false,.bool false,.func (.func 236) #[] #[],.func (.func 238) #[] #[],
 strV [108,101,97,115,116],.bool false,.bool true,.func (.func 236) #[] #[],.func (.func 239) #[] #[],
 strV [109,111,115,116],.bool false,.bool true,.func (.func 236) #[] #[],.func (.func 240) #[] #[],
 strV [99,111,112,105,101,115],.bool true,.bool true,.func (.func 241) #[] #[],.func (.func 242) #[] #[],
 strV [104,97,118,101],.bool false,.bool true,.func (.func 243) #[] #[],.func (.func 244) #[] #[]]
def Knd(H:View):Prop:=∃f gt gz,H 3=some (f,.cells ⟨kindsL⟩ gt gz)
theorem Knd.le {H H':View}(h:Knd H)(hl:H.le H'):Knd H':=h.imp fun _ ⟨gt,gz,e⟩=> ⟨gt,gz,hl _ _ e⟩
theorem kinds_right(k:Nat)(h:k<=5):ldL false 1 kindsL (0+(k:Int).toNat*5+4)=some (rightF k):=by
 match k,h with
 | 0,_=> rfl
 | 1,_=> rfl
 | 2,_=> rfl
 | 3,_=> rfl
 | 4,_=> rfl
 | 5,_=> rfl
def Sb.wrongAt(b:Sb)(u:Nat->Nat)(i:Nat):Bool:=!(b.right u (b.kd i) (b.ra i) (b.rb i) (b.rm i))
def Sb.agrees(b:Sb)(u:Nat->Nat):Bool:=(firstTo (b.wrongAt u) b.nr).isNone
structure Sb.Ok(b:Sb):Prop where
 room:1<=b.room/\b.room<=20
 gap:0<=b.gap/\b.gap<=99
 nm:b.nm<=5
 name:∀i,i<b.nm->isNm (b.name i)=true
 apart:∀i,i<b.nm->∀j,j<i->b.name j≠b.name i
 gr:∀i,i<b.nm->1<=b.gr i/\b.gr i<=4
 due:∀i,i<b.nm->0<=b.due i/\b.due i<=999
 ns:b.ns<=4
 np:∀i,i<b.ns->b.np i<=5
 parts:b.partsIn
 once:∀i,i<b.ns->∀j,j<b.np i->∀k,k<j->¬(b.pm i k=b.pm i j/\b.pg i k=b.pg i j)
 nr:b.nr<=5
 recs:∀i,i<b.nr->b.recOk (b.kd i) (b.ra i) (b.rb i) (b.rm i)
theorem Sb.Ok.few {b:Sb}(h:b.Ok):b.few:=⟨h.ns,fun i hi=> Nat.le_trans (h.np i hi) dE⟩
theorem Sb.Ok.gr1 {b:Sb}(h:b.Ok):∀i,i<b.nm->b.gr i<=1000:=fun i hi=> by
 have:=(h.gr i hi).2;omega
def agrF(b2 b3:Nat):Value:=.func (.func 180) #[] #[.pointer (some ⟨b2,0,none⟩),.pointer (some ⟨b3,0,none⟩)]
section
variable(M:Md prog)(H:View)
theorem agr_c(b:Sb)(a:Sa)(hb:SbAt H b a)(hk:Knd H)(ho:b.Ok)(u:Nat->Nat)(hu:∀i,i<b.ns->u i<=b.np i)(b2 b3:Nat)
  (h2:∃f,H b2=some (f,.cells ⟨(b.val a).cells.toList⟩ 98 (0,0))) (h3:∃f,H b3=some (f,.cells ⟨cameL u⟩ 222 (0,0))) (i:Nat) (hi:i<b.nr):
  FnT M (agrF b2 b3) [recV (b.kd i) (b.ra i) (b.rb i) (b.rm i)] H (fun v H'=> H.le H'/\v=.bool (b.wrongAt u i)):=by
 have hr:=ho.recs i hi;obtain⟨k,hke⟩:∃k:Nat,b.kd i=k:=⟨(b.kd i).toNat,by have:=hr.1;omega⟩
 have hw:b.wrongAt u i=!(b.right u (b.kd i) (b.ra i) (b.rb i) (b.rm i)):=rfl;rw[hw];rw[hke] at hr ⊢;have hk5:k<=5:=by have:=hr.2.1;omega
 have f1:=kinds_right k hk5;obtain⟨fk,gt,gz,e3⟩:=hk;obtain⟨fa,h2⟩:=h2;obtain⟨fb,h3⟩:=h3;have hrt:=fun(H':View) (h':H.le H')=> right_c M H' b a (hb.le h') ho.few ho.parts ho.gr1 u hu k (b.ra i) (b.rb i) (b.rm i) hr;refine FnT.of (first:= []) (captured:= [_,_]) ca180 rfl ?_;refine .en func180 ntmps180 fun St c cs hK=> ?_;refine U2 ?_;refine .bo fun b4=> ?_;refine U3 ?_;refine Tc.dr [] [] mixed rfl ?_;refine V8 0 ?_;refine .z 8 rfl (OpV.takeCall rfl rfl rfl rfl (fun H hs=> hrt H hs.base)) ?_;refine V2 9 ?_;refine .dn ?_;refine .rt hK func180 results180 [_] ?_;exact okB
theorem IndexR_c(b:Sb)(a:Sa)(hb:SbAt H b a)(hk:Knd H)(ho:b.Ok)(u:Nat->Nat)(hu:∀i,i<b.ns->u i<=b.np i)(b2 b3:Nat)
  (h2:∃f,H b2=some (f,.cells ⟨(b.val a).cells.toList⟩ 98 (0,0))) (h3:∃f,H b3=some (f,.cells ⟨cameL u⟩ 222 (0,0))):
  CallT M 189 #[.slice a.R b.nr a.rc,agrF b2 b3] H (fun v H'=> H.le H'/\v=.int .i64 (firstI (firstTo (b.wrongAt u) b.nr))):=by
 have hnr:=ho.nr;have hag:=fun(H':View) (h':H.le H') (j:Nat) (hj:j<b.nr)=> agr_c M H' b a (hb.le h') (hk.le h') ho u hu b2 b3 (h2.imp fun _ e=> h' _ _ e) (h3.imp fun _ e=> h' _ _ e) j hj;refine .en func189 ntmps189 fun St c cs hK=> ?_;refine U12 ?_;refine Tc.db (Tc.loopInv (σ:= { j:Nat//j<=b.nr/\firstTo (b.wrongAt u) j=none }) (fun j=> ([(0,.slice a.R b.nr a.rc),(1,agrF b2 b3),(7,.int .i64 (b.nr:Nat)),(8,.int .i64 (j.1:Nat))],[])) (fun j=> b.nr-j.1) ?_ ⟨0,Nat.zero_le _,rfl⟩);rintro⟨j,hj,hno⟩ ih;show Tc M St _ _ _ _ [(0,.slice a.R b.nr a.rc),(1,agrF b2 b3),(7,.int .i64 (b.nr:Nat)),(8,.int .i64 (j:Nat))] [] _ _;by_cases c1:j=b.nr
 ·clear ih;rw[<-c1,hno] at hK;subst c1;refine U11 ?_;refine .rt hK func189 results189 [_] ?_;exact okB
 ·have c2:j<b.nr:=by omega
  obtain⟨_,h0|⟨ab,ao,f,gs,gt,gz,e1,hbb,hl⟩⟩:=hb.recs
  ·omega
  have f1:=hl j c2;have hq:=fun(H':View) (h':H.le H')=> hag H' h' j c2;rw[e1] at ih ⊢;cases hpp:b.wrongAt u j with
  | true=>
   rw[hpp] at hq;have e:firstTo (b.wrongAt u) b.nr=some j:=firstTo_stays (j:=j+1) (by simp[firstTo,hno,hpp]) _ oM;rw[e] at hK;refine U21 ?_;refine .c rfl rfl rfl rfl (fun H hs=> hq H hs.base) ?_;refine U7 ?_;refine .rt hK func189 results189 [_] ?_;exact okB
  | false=>
   rw[hpp] at hq;refine U21 ?_;refine .c rfl rfl rfl rfl (fun H hs=> hq H hs.base) ?_;refine U8 ?_;exact Tc.db (ih ⟨j+1,oM,by simp[firstTo,hno,hpp]⟩ (by simp only;omega))
theorem ContainsR_c(b:Sb)(a:Sa)(hb:SbAt H b a)(hk:Knd H)(ho:b.Ok)(u:Nat->Nat)(hu:∀i,i<b.ns->u i<=b.np i)(b2 b3:Nat)
  (h2:∃f,H b2=some (f,.cells ⟨(b.val a).cells.toList⟩ 98 (0,0))) (h3:∃f,H b3=some (f,.cells ⟨cameL u⟩ 222 (0,0))):
  CallT M 179 #[.slice a.R b.nr a.rc,agrF b2 b3] H (fun v H'=> H.le H'/\v=.bool (!(b.agrees u))):=by
 have hi:=fun(H':View) (h':H.le H')=> IndexR_c M H' b a (hb.le h') (hk.le h') ho u hu b2 b3 (h2.imp fun _ e=> h' _ _ e) (h3.imp fun _ e=> h' _ _ e);unfold Sb.agrees;cases hq:firstTo (b.wrongAt u) b.nr with
 | none=>
  rw[hq] at hi;have e:firstI none= -1:=rfl;rw[e] at hi;refine .en func179 ntmps179 fun St c cs hK=> ?_;refine U8 ?_;refine .cl (fun H hs=> hi H hs.base) ?_;refine U3 ?_;refine .rt hK func179 results179 [_] ?_;exact okB
 | some j=>
  rw[hq] at hi;have e:firstI (some j)=(j:Nat):=rfl;rw[e] at hi;refine .en func179 ntmps179 fun St c cs hK=> ?_;refine U8 ?_;refine .cl (fun H hs=> hi H hs.base) ?_;refine U3 ?_;refine .rt hK func179 results179 [_] ?_;exact okB
theorem agrees_c(b:Sb)(a:Sa)(hb:SbAt H b a)(hk:Knd H)(ho:b.Ok)(u:Nat->Nat)(hu:∀i,i<b.ns->u i<=b.np i):
  CallT M 166 #[b.val a,cameV u] H (fun v H'=> H.le H'/\v=.bool (b.agrees u)):=by
 have hc:=fun(H':View) (h':H.le H') (b2 b3:Nat) (h2:∃f,H' b2=some (f,.cells ⟨(b.val a).cells.toList⟩ 98 (0,0))) (h3:∃f,H' b3=some (f,.cells ⟨cameL u⟩ 222 (0,0)))=> ContainsR_c M H' b a (hb.le h') (hk.le h') ho u hu b2 b3 h2 h3;have e:b.agrees u=!(!(b.agrees u)):=by simp
 rw[e];refine .en func166 ntmps166 fun St c cs hK=> ?_;refine U2 ?_;refine .bo fun b2=> ?_;refine .bo fun b3=> ?_;refine U8 ?_;refine .cl (fun H hs=> hc H hs.base b2 b3 ⟨true,hs.get (i:=1) rfl⟩ ⟨true,hs.get (i:=0) rfl⟩) ?_;refine U3 ?_;refine .rt hK func166 results166 [_] ?_;exact okB
end
end Go.Proofs.YtcagolloalgfiaaGreatDoor
namespace Go.Proofs.YtcagolloalgfiaaGreatDoor
open Go.RL Go.Proofs.Tryz Go.ChangeShapes Go.WideShapes Go.ChangeAt Go.RowKit
set_option maxRecDepth 100000
theorem cells278:prog.cellsOf 278=5:=by kernel_rfl
theorem cells279:prog.cellsOf 279=30:=by kernel_rfl
theorem cells275:prog.cellsOf 275=1:=by kernel_rfl
theorem cells276:prog.cellsOf 276=1:=by kernel_rfl
theorem cells4:prog.cellsOf 4=1:=by kernel_rfl
theorem und279:prog.underlying 279=some (.array 6 278):=by kernel_rfl
theorem und275:prog.underlying 275=some (.func #[98,93] #[3,4] false):=by kernel_rfl
theorem und276:prog.underlying 276=some (.func #[98,222,93] #[4] false):=by kernel_rfl
theorem und4b:prog.underlying 4=some .bool:=by kernel_rfl
theorem gKinds:prog.globalNamed "baudot/store.kinds"=some 3:=by kernel_rfl
theorem tKinds:(prog.globals[3]?).map (·.type)=some 279:=by kernel_rfl
def OneFn(s:List UInt8)(f:Nat):Prop:=((List.range prog.funcs.size).filter fun g=> (prog.funcs[g]?).any (·.name.toUTF8.data.toList==s))= [f]
theorem fld_at {H:Type}{enc:TypeId×Value->H}{W:World}{base m:Nat}{sp:Nat->Bool}{held:Bool}{fs:Array Field}{cs:List Value}{xs:List (DataW H×List MemPlace)}
  (hf:∀(i:Nat) (f:Field),fs[i]? =some f->DataW.trod enc prog W base sp held m f.type ((cs.drop f.offset).take (prog.cellsOf f.type))=xs[i]?) (i t o c:Nat) (h:(fs[i]?).map (fun f=> (f.type,f.offset))=some (t,o)) (hc:prog.cellsOf t=c):
  DataW.trod enc prog W base sp held m t ((cs.drop o).take c)=xs[i]? :=by
 cases e:fs[i]? with
 | none=> rw[e] at h;cases h
 | some f=>
  rw[e] at h;simp only[Option.map_some,Option.some.injEq,Prod.mk.injEq] at h;have:=hf i f e;rw[h.1,h.2,hc] at this;exact this
theorem knd_one {W:World}{base n:Nat}{sp:Nat->Bool}{cs:List Value}{nm:List UInt8}{b1 b2:Bool}{c1 c2:UInt8}{r1 r2:List UInt8}{F1 F2:Nat}{p:List MemPlace}(h1:OneFn (c1::r1) F1)(h2:OneFn (c2::r2) F2)
  (h:DataW.trod (funcToken prog) prog W base sp true n 278 cs=some (.agg [.lit (.string nm),.lit (.bool b1),.lit (.bool b2),.held (c1::r1),.held (c2::r2)],p)):
  cs= [strV nm,.bool b1,.bool b2,.func (.func F1) #[] #[],.func (.func F2) #[] #[]]:=by
 obtain⟨xs,m,_,hx,hl,hxl,hf⟩:=DataW.trod_struct Tryz.underlying278 h;rw[cells278] at hl;obtain⟨a0,a1,a2,a3,a4,rfl⟩:∃a b c d e,cs= [a,b,c,d,e]:=by
  match cs,hl with
  | [a,b,c,d,e],_=> exact⟨a,b,c,d,e,rfl⟩
 obtain⟨x0,x1,x2,x3,x4,rfl⟩:∃a b c d e,xs= [a,b,c,d,e]:=by
  match xs,hxl with
  | [a,b,c,d,e],_=> exact⟨a,b,c,d,e,rfl⟩
 have hx':=congrArg Prod.fst hx;simp only[List.map_cons,List.map_nil,DataW.agg.injEq,List.cons.injEq,and_true] at hx';obtain⟨e0,e1,e2,e3,e4⟩:=hx';have f0:=fld_at hf 0 9 0 1 rfl cells9;have f1:=fld_at hf 1 4 1 1 rfl cells4;have f2:=fld_at hf 2 4 2 1 rfl cells4;have f3:=fld_at hf 3 275 3 1 rfl cells275;have f4:=fld_at hf 4 276 4 1 rfl cells276;simp only[List.drop_zero,List.drop_succ_cons,List.take_succ_cons,List.take_zero,List.getElem?_cons_zero,List.getElem?_cons_succ] at f0 f1 f2 f3 f4;obtain⟨s0,g0,g0',_⟩:=DataW.trod_string undStr f0;obtain⟨z1,g1,g1'⟩:=DataW.trod_bool und4b f1;obtain⟨z2,g2,g2'⟩:=DataW.trod_bool und4b f2;obtain⟨d3,q3⟩:=x3;obtain⟨d4,q4⟩:=x4;simp only at e3 e4;subst e3 e4;obtain rfl:=func_of_trod und275 h1 f3;obtain rfl:=func_of_trod und276 h2 f4;subst g0' g1' g2';simp only[DataW.lit.injEq,Lit.string.injEq,Lit.bool.injEq] at e0 e1 e2;simp only[List.cons.injEq,and_true] at g0 g1 g2;rw[g0,g1,g2,str_of,<-e0,e1,e2]
theorem knd_of {LL:List (String×DataW Unit)}(hc:("baudot/store.kinds",(Rows.laid_baudot_store_kinds:DataW Unit))∈LL){W:World}(h:laidMetH prog LL W):Knd (fullV W):=by
 obtain⟨g,t,cs,fuel,p,hg,ht,hv,hd⟩:=h.funcs (n:= "baudot/store.kinds") hc;obtain rfl:=Option.some.inj (gKinds.symm.trans hg);obtain rfl:=Option.some.inj (tKinds.symm.trans ht);obtain⟨gt,gz,hh⟩:=var_heap gKinds hv;obtain⟨xs,m,_,hx,hl,hxl,hf⟩:=DataW.trod_array und279 hd;rw[cells279] at hl;obtain⟨a0,a1,a2,a3,a4,a5,a6,a7,a8,a9,a10,a11,a12,a13,a14,a15,a16,a17,a18,a19,a20,a21,a22,a23,a24,a25,a26,a27,a28,a29,hcs⟩:∃a0 a1 a2 a3 a4 a5 a6 a7 a8 a9 a10 a11 a12 a13 a14 a15 a16 a17 a18 a19 a20 a21 a22 a23 a24 a25 a26 a27 a28 a29,cs.toList= [a0,a1,a2,a3,a4,a5,a6,a7,a8,a9,a10,a11,a12,a13,a14,a15,a16,a17,a18,a19,a20,a21,a22,a23,a24,a25,a26,a27,a28,a29]:=by
  match e:cs.toList,hl with
  | [a0,a1,a2,a3,a4,a5,a6,a7,a8,a9,a10,a11,a12,a13,a14,a15,a16,a17,a18,a19,a20,a21,a22,a23,a24,a25,a26,a27,a28,a29],_=> exact⟨a0,a1,a2,a3,a4,a5,a6,a7,a8,a9,a10,a11,a12,a13,a14,a15,a16,a17,a18,a19,a20,a21,a22,a23,a24,a25,a26,a27,a28,a29,rfl⟩
 rw[hcs] at hf;obtain⟨x0,x1,x2,x3,x4,x5,rfl⟩:∃a b c d e f,xs= [a,b,c,d,e,f]:=by
  match xs,hxl with
  | [a,b,c,d,e,f],_=> exact⟨a,b,c,d,e,f,rfl⟩
 have hx':=congrArg Prod.fst hx;have hx2:(DataW.agg [x0.1,x1.1,x2.1,x3.1,x4.1,x5.1]:DataW (List UInt8))=DataW.agg [.agg [.lit (.string _),.lit (.bool _),.lit (.bool _),.held _,.held _],.agg [.lit (.string _),.lit (.bool _),.lit (.bool _),.held _,.held _],.agg [.lit (.string _),.lit (.bool _),.lit (.bool _),.held _,.held _],.agg [.lit (.string _),.lit (.bool _),.lit (.bool _),.held _,.held _],.agg [.lit (.string _),.lit (.bool _),.lit (.bool _),.held _,.held _],.agg [.lit (.string _),.lit (.bool _),.lit (.bool _),.held _,.held _]]:=hx'.symm;simp only[DataW.agg.injEq,List.cons.injEq,and_true] at hx2;obtain⟨e0,e1,e2,e3,e4,e5⟩:=hx2;obtain⟨d0,p0⟩:=x0;obtain⟨d1,p1⟩:=x1;obtain⟨d2,p2⟩:=x2;obtain⟨d3,p3⟩:=x3;obtain⟨d4,p4⟩:=x4;obtain⟨d5,p5⟩:=x5;simp only at e0 e1 e2 e3 e4 e5;subst e0 e1 e2 e3 e4 e5;have g0:=hf 0 dE;have g1:=hf 1 dE;have g2:=hf 2 dE;have g3:=hf 3 dE;have g4:=hf 4 dE;have g5:=hf 5 dE;simp only[cells278,List.drop_zero,List.drop_succ_cons,List.take_succ_cons,List.take_zero,List.getElem?_cons_zero,List.getElem?_cons_succ,Nat.reduceMul,Nat.zero_mul,Nat.one_mul] at g0 g1 g2 g3 g4 g5;have k0:=knd_one (F1:=236) (F2:=237) (by unfold OneFn;kernel_rfl) (by unfold OneFn;kernel_rfl) g0;have k1:=knd_one (F1:=236) (F2:=238) (by unfold OneFn;kernel_rfl) (by unfold OneFn;kernel_rfl) g1;have k2:=knd_one (F1:=236) (F2:=239) (by unfold OneFn;kernel_rfl) (by unfold OneFn;kernel_rfl) g2;have k3:=knd_one (F1:=236) (F2:=240) (by unfold OneFn;kernel_rfl) (by unfold OneFn;kernel_rfl) g3;have k4:=knd_one (F1:=241) (F2:=242) (by unfold OneFn;kernel_rfl) (by unfold OneFn;kernel_rfl) g4;have k5:=knd_one (F1:=243) (F2:=244) (by unfold OneFn;kernel_rfl) (by unfold OneFn;kernel_rfl) g5;simp only[List.cons.injEq,and_true] at k0 k1 k2 k3 k4 k5;refine⟨false,gt,gz,?_⟩;have ec:cs=⟨kindsL⟩:=by
  apply Array.ext'
  rw[hcs];obtain⟨rfl,rfl,rfl,rfl,rfl⟩:=k0;obtain⟨rfl,rfl,rfl,rfl,rfl⟩:=k1;obtain⟨rfl,rfl,rfl,rfl,rfl⟩:=k2;obtain⟨rfl,rfl,rfl,rfl,rfl⟩:=k3;obtain⟨rfl,rfl,rfl,rfl,rfl⟩:=k4;obtain⟨rfl,rfl,rfl,rfl,rfl⟩:=k5;rfl
 rw[<-ec];simp only[fullV,hh,Option.map_some]
section
variable {H:Type}{enc:TypeId×Value->H}{W:World}
theorem open_rows {α:Type}(x0:α){t e:TypeId}{sz:Nat}(ht:prog.underlying t=some (.slice e))(hsz:prog.cellsOf e=sz)(h0:0<sz)(f:α->List Value)(hfl:∀x,(f x).length=sz)(Pr:α->Prop)
  (he:∀n cs y,DataW.trod enc prog W 0 (fun _=> true) true n e cs=some y->∃x,cs=f x/\Pr x) {n:Nat} {cs:List Value} {y:DataW H×List MemPlace} (h:DataW.trod enc prog W 0 (fun _=> true) true n t cs=some y):
  ∃(A:Option Addr) (len cap:Nat) (xs:Nat->α),cs= [.slice A len cap]/\len<=cap/\(len=0\/∃b o gs gt gz,A=some ⟨b,o,none⟩/\fullV W b=some (false,.cells ⟨gs⟩ gt gz)/\∀i:Nat,i<len->ldL true sz gs (o+(i:Int).toNat*sz)=some (.agg ⟨f (xs i)⟩)/\Pr (xs i)):=by
 haveI:Inhabited α:=⟨x0⟩
 rcases Go.Deep.open_slice ht h with ⟨h1,_⟩|⟨a,len,cap,mm,nn,D,Pl,h1,_,h3,_,h5,_,h7⟩
 ·exact⟨none,0,0,fun _=> x0,h1,Nat.le_refl _,.inl rfl⟩
 ·simp only[if_true] at h5;have hex:∀i,i<len->∃x:α,W.cells? 0 (a.add (i*sz)) sz=some (f x)/\Pr x:=fun i hi=> by
   obtain⟨cs',g1,g2⟩:=h7 i oM;rw[hsz] at g1;obtain⟨x,hx,hp⟩:=he _ _ _ g2;exact⟨x,by rw[g1,hx],hp⟩
  obtain⟨g,hfx⟩:=Go.Deep.choose_lt hex;refine⟨some a,len,cap,g,h1,h3,?_⟩;cases len with
  | zero=> exact .inl rfl
  | succ k=>
   obtain⟨ab,ao,spt⟩:=a;have hat:∀i,i<k+1->∀j,j<sz->W.cell? (((⟨ab,ao,spt⟩:Addr).add (i*sz)).add j)=(f (g i))[j]? :=fun i hi j hj=> (World.cells?_some (hfx i hi).1).2.2 j hj;have hsm:∀i j,j<sz->∃z,(f (g i))[j]? =some z:=fun i j hj=> ⟨_,List.getElem?_eq_getElem (by rw[hfl];exact hj)⟩
   have h00:=hat 0 oM 0 h0;obtain⟨z0,hz0⟩:=hsm 0 0 h0;rw[hz0] at h00;have hsp:spt=none:=by simpa [Addr.add] using World.cell?_spot h00
   subst hsp;obtain⟨gs,gt,gz,g1,_⟩:=cells_of h00;have g1':W.heap[ab]? =some (.cells gs gt gz):=by simpa [Addr.add] using g1
   refine .inr ⟨ab,ao,gs.toList,gt,gz,rfl,by simp only[fullV,g1',Option.map_some],fun i hi=> ⟨?_,(hfx i hi).2⟩⟩;have hone:∀j,j<sz->gs.toList[ao+i*sz+j]? =(f (g i))[j]? :=fun j hj=> by
    have h8:=hat i hi j hj;rw[add_at,add_at] at h8;obtain⟨z,hz⟩:=hsm i j hj;rw[hz] at h8 ⊢;obtain⟨gs',gt',gz',g2,g3⟩:=cells_of h8;rw[g1'] at g2;cases g2
    rw[Array.getElem?_toList];exact g3
   rw[Int.toNat_natCast];have e1:(gs.toList.drop (ao+i*sz)).take sz=f (g i):=by
    apply List.ext_getElem?
    intro j;by_cases hj:j<sz
    ·rw[List.getElem?_take_of_lt hj,List.getElem?_drop];exact hone j hj
    ·rw[List.getElem?_eq_none (by rw[List.length_take];omega),List.getElem?_eq_none (by rw[hfl];omega)]
   have e2:ao+i*sz+sz<=gs.toList.length:=by
    obtain⟨z,hz⟩:=hsm i (sz-1) oM;have h9:=hone (sz-1) oM;rw[hz] at h9;have:=(List.getElem?_eq_some_iff.1 h9).1;omega
   unfold ldL;rw[show Nat.ble (ao+i*sz+sz) gs.toList.length=true from Nat.ble_eq_true_of_le e2];simp only[e1]
theorem cells56:prog.cellsOf 56=2:=by kernel_rfl
theorem cells90:prog.cellsOf 90=1:=by kernel_rfl
theorem cells48:prog.cellsOf 48=1:=by kernel_rfl
theorem cells93:prog.cellsOf 93=4:=by kernel_rfl
theorem cells91:prog.cellsOf 91=1:=by kernel_rfl
theorem cells112:prog.cellsOf 112=3:=by kernel_rfl
theorem cells26:prog.cellsOf 26=5:=by kernel_rfl
theorem cells22b:prog.cellsOf 22=1:=by kernel_rfl
theorem cells23b:prog.cellsOf 23=1:=by kernel_rfl
theorem cells24b:prog.cellsOf 24=1:=by kernel_rfl
theorem und91:prog.underlying 91=some (.int .i64):=by kernel_rfl
theorem trod_prt(n:Nat)(cs:List Value)(y:DataW H×List MemPlace)(h:DataW.trod enc prog W 0 (fun _=> true) true n 56 cs=some y):∃x:Int×Int,cs= [.int .i64 x.1,.int .i64 x.2]/\True:=by
 obtain⟨y0,y1,m,_,hl,t0,t1⟩:=trod_struct2 Tryz.underlying56 h;rw[cells56] at hl;obtain⟨c0,c1,rfl⟩:∃a b,cs= [a,b]:=by
  match cs,hl with
  | [a,b],_=> exact⟨a,b,rfl⟩
 simp only[cells3,List.drop_zero,List.drop_succ_cons,List.take_succ_cons,List.take_zero] at t0 t1;obtain⟨a,ha⟩:=trod_i t0;obtain⟨b,hb⟩:=trod_i t1;simp only[List.cons.injEq,and_true] at ha hb;exact⟨(a,b),by rw[ha,hb],trivial⟩
abbrev SeX:=Option Addr×Nat×Nat×(Nat->Int)×(Nat->Int)
theorem trod_ses(n:Nat)(cs:List Value)(y:DataW H×List MemPlace)(h:DataW.trod enc prog W 0 (fun _=> true) true n 90 cs=some y):∃x:SeX,cs= [.slice x.1 x.2.1 x.2.2.1]/\(x.2.1<=x.2.2.1/\PartsAt (fullV W) x.1 x.2.1 x.2.2.2.1 x.2.2.2.2):=by
 obtain⟨y0,m,_,hl,t0⟩:=trod_struct1 Tryz.underlying90 h;rw[cells90] at hl;obtain⟨c0,rfl⟩:∃a,cs= [a]:=by
  match cs,hl with
  | [a],_=> exact⟨a,rfl⟩
 simp only[cells48,List.drop_zero,List.take_succ_cons,List.take_zero] at t0;obtain⟨A,len,cap,xs,e1,h1,h2⟩:=open_rows ((0:Int),(0:Int)) Tryz.underlying48 cells56 dE (fun x:Int×Int=> [.int .i64 x.1,.int .i64 x.2]) (fun _=> rfl) (fun _=> True) trod_prt t0;refine⟨(A,len,cap,fun i=> (xs i).1,fun i=> (xs i).2),e1,h1,h2.imp id fun⟨b,o,gs,gt,gz,q1,q2,q3⟩=> ⟨b,o,false,gs,gt,gz,q1,q2,fun j hj=> (q3 j hj).1⟩⟩
theorem trod_msg(n:Nat)(cs:List Value)(y:DataW H×List MemPlace)(h:DataW.trod enc prog W 0 (fun _=> true) true n 112 cs=some y):∃x:List UInt8×Int×Int,cs= [strV x.1,.int .i64 x.2.1,.int .i64 x.2.2]/\True:=by
 obtain⟨xs,m,_,_,hl,hxl,hf⟩:=DataW.trod_struct Tryz.underlying112 h;rw[cells112] at hl;obtain⟨c0,c1,c2,rfl⟩:∃a b c,cs= [a,b,c]:=by
  match cs,hl with
  | [a,b,c],_=> exact⟨a,b,c,rfl⟩
 obtain⟨x0,x1,x2,rfl⟩:∃a b c,xs= [a,b,c]:=by
  match xs,hxl with
  | [a,b,c],_=> exact⟨a,b,c,rfl⟩
 have f0:=fld_at hf 0 9 0 1 rfl cells9;have f1:=fld_at hf 1 3 1 1 rfl cells3;have f2:=fld_at hf 2 3 2 1 rfl cells3;simp only[List.drop_zero,List.drop_succ_cons,List.take_succ_cons,List.take_zero,List.getElem?_cons_zero,List.getElem?_cons_succ] at f0 f1 f2;obtain⟨s0,e0⟩:=trod_s f0;obtain⟨z1,e1⟩:=trod_i f1;obtain⟨z2,e2⟩:=trod_i f2;simp only[List.cons.injEq,and_true] at e0 e1 e2;exact⟨(s0,z1,z2),by rw[e0,e1,e2],trivial⟩
theorem trod_rec(n:Nat)(cs:List Value)(y:DataW H×List MemPlace)(h:DataW.trod enc prog W 0 (fun _=> true) true n 93 cs=some y):∃x:Int×Int×Int×Int,cs= [.int .i64 x.1,.int .i64 x.2.1,.int .i64 x.2.2.1,.int .i64 x.2.2.2]/\True:=by
 obtain⟨xs,m,_,_,hl,hxl,hf⟩:=DataW.trod_struct Tryz.underlying93 h;rw[cells93] at hl;obtain⟨c0,c1,c2,c3,rfl⟩:∃a b c d,cs= [a,b,c,d]:=by
  match cs,hl with
  | [a,b,c,d],_=> exact⟨a,b,c,d,rfl⟩
 obtain⟨x0,x1,x2,x3,rfl⟩:∃a b c d,xs= [a,b,c,d]:=by
  match xs,hxl with
  | [a,b,c,d],_=> exact⟨a,b,c,d,rfl⟩
 have f0:=fld_at hf 0 91 0 1 rfl cells91;have f1:=fld_at hf 1 3 1 1 rfl cells3;have f2:=fld_at hf 2 3 2 1 rfl cells3;have f3:=fld_at hf 3 3 3 1 rfl cells3;simp only[List.drop_zero,List.drop_succ_cons,List.take_succ_cons,List.take_zero,List.getElem?_cons_zero,List.getElem?_cons_succ] at f0 f1 f2 f3;obtain⟨z0,e0,_⟩:=DataW.trod_int und91 f0;obtain⟨z1,e1⟩:=trod_i f1;obtain⟨z2,e2⟩:=trod_i f2;obtain⟨z3,e3⟩:=trod_i f3;simp only[List.cons.injEq,and_true] at e0 e1 e2 e3;exact⟨(z0,z1,z2,z3),by rw[e0,e1,e2,e3],trivial⟩
theorem open_store {base:Nat}{v:Value}(hv:Value.okWide prog W .any base 26 v)(h:∃d q,DataW.Trod enc prog W 0 (fun _=> true) true 26 v d q):
  ∃(b:Sb) (a:Sa),v=b.val a/\SbAt (fullV W) b a:=by
 have hv':∃cs,v=.agg cs:=by
  unfold Value.okWide at hv;rw[Tryz.underlying26] at hv;obtain⟨cs,h,_⟩:=hv;exact⟨cs,h⟩
 obtain⟨⟨cs⟩,rfl⟩:=hv';obtain⟨d,q,n,h⟩:=h;obtain⟨xs,m,_,_,hl,hxl,hf⟩:=DataW.trod_struct Tryz.underlying26 h;have hcs:(Value.agg ⟨cs⟩).cells.toList=cs:=rfl;rw[hcs] at hl hf;rw[cells26] at hl;obtain⟨c0,c1,c2,c3,c4,rfl⟩:∃a b c d e,cs= [a,b,c,d,e]:=by
  match cs,hl with
  | [a,b,c,d,e],_=> exact⟨a,b,c,d,e,rfl⟩
 obtain⟨x0,x1,x2,x3,x4,rfl⟩:∃a b c d e,xs= [a,b,c,d,e]:=by
  match xs,hxl with
  | [a,b,c,d,e],_=> exact⟨a,b,c,d,e,rfl⟩
 have f0:=fld_at hf 0 3 0 1 rfl cells3;have f1:=fld_at hf 1 3 1 1 rfl cells3;have f2:=fld_at hf 2 22 2 1 rfl cells22b;have f3:=fld_at hf 3 23 3 1 rfl cells23b;have f4:=fld_at hf 4 24 4 1 rfl cells24b;simp only[List.drop_zero,List.drop_succ_cons,List.take_succ_cons,List.take_zero,List.getElem?_cons_zero,List.getElem?_cons_succ] at f0 f1 f2 f3 f4;obtain⟨room,e0⟩:=trod_i f0;obtain⟨gap,e1⟩:=trod_i f1;obtain⟨A,nm,mc,ms,e2,m1,m2⟩:=open_rows (([]:List UInt8),(0:Int),(0:Int)) Tryz.underlying22 cells112 dE (fun x:List UInt8×Int×Int=> [strV x.1,.int .i64 x.2.1,.int .i64 x.2.2]) (fun _=> rfl) (fun _=> True) trod_msg f2;obtain⟨S,ns,sc,ss,e3,s1,s2⟩:=open_rows ((none,0,0,fun _=> 0,fun _=> 0):SeX) Tryz.underlying23 cells90 dE (fun x:SeX=> [.slice x.1 x.2.1 x.2.2.1]) (fun _=> rfl) (fun x=> x.2.1<=x.2.2.1/\PartsAt (fullV W) x.1 x.2.1 x.2.2.2.1 x.2.2.2.2) trod_ses f3;obtain⟨R,nr,rc,rs,e4,r1,r2⟩:=open_rows ((0,0,0,0):Int×Int×Int×Int) Tryz.underlying24 cells93 dE (fun x:Int×Int×Int×Int=> [.int .i64 x.1,.int .i64 x.2.1,.int .i64 x.2.2.1,.int .i64 x.2.2.2]) (fun _=> rfl) (fun _=> True) trod_rec f4;simp only[List.cons.injEq,and_true] at e0 e1 e2 e3 e4;subst e0 e1 e2 e3 e4;refine⟨{ room:=room,gap:=gap,nm:=nm,name:=fun i=> (ms i).1,gr:=fun i=> (ms i).2.1,due:=fun i=> (ms i).2.2,ns:=ns,np:=fun i=> (ss i).2.1,pm:=fun i=> (ss i).2.2.2.1,pg:=fun i=> (ss i).2.2.2.2,nr:=nr,kd:=fun i=> (rs i).1,ra:=fun i=> (rs i).2.1,rb:=fun i=> (rs i).2.2.1,rm:=fun i=> (rs i).2.2.2 },⟨A,mc,S,sc,R,rc⟩,rfl,⟨⟨m1,?_⟩,⟨s1,?_⟩,⟨r1,?_⟩⟩⟩
 ·exact m2.imp id fun⟨b,o,gs,gt,gz,q1,q2,q3⟩=> ⟨b,o,false,gs,gt,gz,q1,q2,fun i hi=> (q3 i hi).1⟩
 ·exact s2.imp id fun⟨b,o,gs,gt,gz,q1,q2,q3⟩=> ⟨b,o,false,gs,gt,gz,q1,q2,fun i hi=> ⟨_,_,(q3 i hi).1,(q3 i hi).2.1,(q3 i hi).2.2⟩⟩
 ·exact r2.imp id fun⟨b,o,gs,gt,gz,q1,q2,q3⟩=> ⟨b,o,false,gs,gt,gz,q1,q2,fun i hi=> (q3 i hi).1⟩
end
end Go.Proofs.YtcagolloalgfiaaGreatDoor
namespace Go.RL
open Go.Conc
section
variable {P:Program}{E:Env P}{M:Md P}{n:Nat}{H₀:View}{R:Rg}{L L':Bl}{K:Rg->Bl->Prop}{o:Oper}{d:Nat}{v:Value}
theorem OpV.sliceData {cl:Go.Call}{x:Operand}{t:TypeId}{a:Addr}{m c:Nat}(hop:o.op=.call cl)(hcl:cl.callee=.builtin .unsafeSliceData)(hat:cl.argTypes=#[t])(har:cl.args=#[x])(hx:evR R x=some (.slice (some a) m c))(hc:Nat.beq c 0=false):
  OpV P n H₀ R L o (.pointer (some a)):=fun H tmps _ hr=> by
 unfold execOp;rw[hop];simp only[resolve,hcl,hat,har];have hm:Array.map (evT tmps) #[x]=#[.slice (some a) m c]:=by simp[hr.ev hx]
 rw[hm];refine vwp_bind (Builtin.unsafeSliceData_ #[t] o.type #[.slice (some a) m c]) _ ?_;have h0:c≠0:=Nat.ne_of_beq_eq_false hc;show vwp P (if c≠0 then Sem.pure (Value.pointer (some a)) else _) H _;rw[if_pos h0];exact⟨rfl,rfl⟩
theorem vwp_loadBytes {H:View}{f:Bool}{e:TypeId}{fz:Nat×Nat}{l:List Value}(blk:Nat)(hb:H blk=some (f,.cells ⟨l⟩ e fz)):∀(s a:List UInt8) (off:Nat) {Q:ByteArray->View->Prop},(∀i x,s[i]? =some x->l[off+i]? =some (.int .u8 (x.toNat:Nat)))->Q ⟨⟨a++s⟩⟩ H->vwp P (loadBytes ⟨blk,off,none⟩ ⟨⟨a⟩⟩ s.length) H Q
 | [],a,off,Q,_,h=> by
  rw[List.append_nil] at h;exact h
 | x ::s,a,off,Q,hl,h=> by
  have h0:=hl 0 x rfl;have ih:=vwp_loadBytes blk hb s (a++[x]) (off+1) (Q:=Q) (fun i y hy=> by
   have:=hl (i+1) y hy;rw[show off+1+i=off+(i+1) by omega];exact this) (by rw[List.append_assoc];exact h)
  refine⟨rfl,rfl,f,⟨l⟩,e,fz,.int .u8 (x.toNat:Nat),hb,?_,?_⟩
  ·simpa using h0
  ·have e1:(ByteArray.mk ⟨a⟩).push ((x.toNat:Nat):Int).toNat.toUInt8=ByteArray.mk ⟨a++[x]⟩:=by
    rw[Int.toNat_natCast,Nat.toUInt8,UInt8.ofNat_toNat,bytes_push]
   show vwp P (loadBytes (Addr.add ⟨blk,off,none⟩ 1) ((ByteArray.mk ⟨a⟩).push ((x.toNat:Nat):Int).toNat.toUInt8) s.length) H Q;rw[e1];exact ih
theorem Or.unsafeStr(j:Nat){cl:Go.Call}{x y:Operand}{t u e eb blk:Nat}{s:List UInt8}{jj:List Value}(hop:o.op=.call cl)(hcl:cl.callee=.builtin .unsafeString)(hat:cl.argTypes=#[t,u])(har:cl.args=#[x,y])
  (hx:evR R x=some (.pointer (some ⟨blk,0,none⟩))) (hy:evR R y=some (.int .i64 (s.length:Nat))) (ht:P.underlying t=some (.pointer e)) (hs0:s≠ []) (hs1:s.length<=1000000000)
  (hL:L[j]? =some (blk,true,.cells ⟨bytesV s++jj⟩ eb (0,0))) (hlies:liesAt P P.depth eb ((bytesV s++jj).length/P.cellsOf eb) 0 e s.length=true) (hd:o.dst=some d) (hn:d<n)
  (hk:K ((d,strV s)::R) (L.set j (blk,true,.cells ⟨bytesV s++jj⟩ eb (0,s.length)))):Or M n H₀ R L o K:=
 .val hd hn fun H tmps hst hr=> by
  unfold execOp;rw[hop];simp only[resolve,hcl,hat,har];have hm':Array.map (evT tmps) #[x,y]=#[.pointer (some ⟨blk,0,none⟩),.int .i64 (s.length:Nat)]:=by simp[hr.ev hx,hr.ev hy]
  rw[hm'];have hb:=hst.get hL;have hpos:0<s.length:=List.length_pos_iff.2 hs0;have h1:¬((s.length:Nat):Int)<0:=by omega
  have h2:¬((s.length:Nat):Int)>IntKind.i64.max:=by
   have:IntKind.i64.max=9223372036854775807:=by decide
   omega
  have h3:¬((s.length:Nat):Int)=0:=by omega
  refine vwp_bind (Builtin.unsafeString_ #[t,u] o.type #[.pointer (some ⟨blk,0,none⟩),.int .i64 (s.length:Nat)]) _ ?_;have hz1:∀z:Int,(((s.length:Nat):Int)=z)->¬z<0/\¬z>IntKind.i64.max/\¬z=0/\z.toNat=s.length:=fun z hz=> by subst hz;exact⟨h1,h2,h3,Int.toNat_natCast _⟩
  generalize hzz:((s.length:Nat):Int)=z;obtain⟨z1,z2,z3,z4⟩:=hz1 z hzz
  conv=> arg 2;whnf
  rw[show(IntKind.i64,z).snd.decLt 0=isFalse z1 from Subsingleton.elim _ _]
  conv=> arg 2;whnf
  rw[show IntKind.i64.max.decLt (IntKind.i64,z).snd=isFalse z2 from Subsingleton.elim _ _]
  conv=> arg 2;whnf
  rw[show(IntKind.i64,z).snd.instDecidableEq 0=isFalse z3 from Subsingleton.elim _ _];refine vwp_bind (elemOf t) _ (vwp_bind (underlying t) _ (vwp_underlying ht ?_));refine vwp_bind (variablesAt ⟨blk,0,none⟩ e z.toNat) _ ?_;rw[z4];refine⟨true,_,_,_,hb,?_⟩;show vwp P (if liesAt P P.depth eb ((bytesV s++jj).length/P.cellsOf eb) 0 e s.length=true then _ else _) H _;rw[if_pos hlies];refine vwp_bind (loadBytes ⟨blk,0,none⟩ .empty s.length) _ ?_;refine vwp_loadBytes blk hb s [] 0 (fun i x hx=> ?_) ?_
  ·rw[Nat.zero_add,List.getElem?_append_left (by rw[bytesV_len];exact(List.getElem?_eq_some_iff.1 hx).1)];unfold bytesV;rw[List.getElem?_map,hx];rfl
  ·refine⟨oM,_,_,_,hb,?_⟩;refine⟨_,rfl,_,hst.set hL _,?_⟩;have e1:(if((0:Nat),(0:Nat)).1==((0:Nat),(0:Nat)).2 then(0,0+s.length) else(min ((0:Nat),(0:Nat)).1 0,max ((0:Nat),(0:Nat)).2 (0+s.length)))=(0,s.length):=by simp
   show K ((d,strV s)::R) (L.set j (blk,true,.cells ⟨bytesV s++jj⟩ eb (if((0:Nat),(0:Nat)).1==((0:Nat),(0:Nat)).2 then(0,0+s.length) else(min ((0:Nat),(0:Nat)).1 0,max ((0:Nat),(0:Nat)).2 (0+s.length)))));rw[e1];exact hk
end
end Go.RL
namespace Go.Proofs.YtcagolloalgfiaaGreatDoor
open Go.RL Go.Proofs.Tryz
set_option maxRecDepth 10000
theorem row_bytes(fits:TypeId->Bool)(hf:fits 5=true)(k count n:Nat)(h:n<=count):rowAt prog fits (k+1) 5 count 0 n=true:=by
 have hc:prog.cellsOf 5=1:=by kernel_rfl
 unfold rowAt;simp only[hc];simp[h,hf]
theorem lies_bytes(count n:Nat)(h:n<=count):liesAt prog prog.depth 5 (count/prog.cellsOf 5) 0 5 n=true:=by
 have hc:prog.cellsOf 5=1:=by kernel_rfl
 obtain⟨k,hk⟩:∃k,prog.depth=k+1:=⟨prog.depth-1,by
  have:1<=prog.depth:=Nat.le_of_ble_eq_true kR;omega⟩
 have hf:sameLayout prog prog.depth 5 5=true:=by kernel_rfl
 have h1:=row_bytes (fun t=> sameLayout prog prog.depth t 5) hf k count n h;rw[hc,Nat.div_one];show liesAt prog prog.depth 5 count 0 5 n=true;rw[hk] at h1 ⊢;show(rowAt prog (fun t=> sameLayout prog prog.depth t 5) prog.depth 5 count 0 n||_)=true;rw[hk,h1];rfl
theorem ptr_byte:prog.underlying 251=some (.pointer 5):=by kernel_rfl
end Go.Proofs.YtcagolloalgfiaaGreatDoor
section

end
namespace Go.RL
open Go.Conc
section
variable {P:Program}{E:Env P}{M:Md P}{n:Nat}{H₀:View}{R:Rg}{L L':Bl}{K:Rg->Bl->Prop}{o:Oper}{d:Nat}{v:Value}
theorem vwp_appendXC {t xt e:TypeId}{rt:TypeId}{r re:TyRow}{sz m:Nat}{y:Value}{new:List Value}{g:Gl e sz}{H:View}{Q:Value->View->Prop}(ht:E.ty t=some r)(hds:r.ds=.slice e)(hre:E.ty e=some re)(hsz:re.size=sz)(hzs:re.zero.cells.toList.length=sz)
  (hxt:∃rx,E.ty xt=some rx/\rx.ds=.str) (hby:re.bytes<=1000) (hn:g.n+m<=1000000000) (hb:∀x∈g.bl,H x.1=some x.2) (hyl:∀Q:Nat->View->Prop,Q m H->vwp P (Builtin.lenOf y) H Q) (hyf:∀Q:Array Value->View->Prop,Q ⟨new⟩ H->vwp P (Builtin.firstCells sz m y) H Q) (hyn:new.length=m*sz) (hs:new.all single=true)
  (hq:∀(g':Gl e sz) (H':View),g'.n=g.n+m->g'.l=g.l++new->(∀b,g'.blk=some b->((g.blk=some b/\g'.cap=g.cap)\/H b=none))->(∀c,(∀b,g'.blk=some b->b≠c)->H' c=H c)->(∀x∈g'.bl,H' x.1=some x.2)->Q g'.val H'):
  vwp P (Builtin.append_ #[t,xt] rt #[g.val,y]) H Q:=by
 obtain⟨rx,hx1,hx2⟩:=hxt;have hold:=g.src hb;obtain⟨a,hga⟩:∃a,g.val=.slice a g.n g.cap:=⟨_,rfl⟩
 show vwp P ((underlying t).bind fun _=> _) H Q;refine vwp_bind (underlying t) _ (vwp_underlying (ds_slice ((E.ok _ _ ht).ds.trans hds)) ?_);rw[hga];show vwp P ((sizeOf e).bind fun _=> _) H Q;refine vwp_bind (sizeOf e) _ (vwp_sizeOf (E.ok _ _ hre).size ?_);refine vwp_bind (underlying xt) _ (vwp_underlying (ds_str ((E.ok _ _ hx1).ds.trans hx2)) ?_);refine vwp_bind (Builtin.lenOf y) _ (hyl _ ?_);simp only[hsz];by_cases hcap:g.n+m<=g.cap
 ·rw[if_pos hcap];show vwp P ((Builtin.firstCells sz m y).bind fun _=> _) H Q;refine vwp_bind _ _ (hyf _ ?_);cases hblk:g.blk with
  | none=>
   have h1:=g.h0 hblk;have e1:a=none:=by
    unfold Gl.val at hga;rw[hblk] at hga
    injection hga with e1
    exact e1.symm
   subst e1;have hm:m=0:=by omega
   have hnew:new= []:=List.eq_nil_of_length_eq_zero (by rw[hyn,hm];simp);have:=hq g H oM (by rw[hnew];simp) (fun b hb=> .inl ⟨hb,rfl⟩) (fun c _=> rfl) hb;rw[hga] at this;show Q (.slice none (g.n+m) g.cap) H;rw[hm];exact this
  | some b=>
   have e1:a=some ⟨b,0,none⟩:=by
    unfold Gl.val at hga;rw[hblk] at hga;cases hga
    rfl
   subst e1;have hHb:H b=some (true,.cells ⟨g.l++g.junk⟩ e (0,0)):=by
    have:=hb (b,true,.cells ⟨g.l++g.junk⟩ e (0,0)) (by unfold Gl.bl;rw[hblk];simp);exact this
   show vwp P ((storeCells (Addr.add ⟨b,0,none⟩ (g.n*sz)) new).bind fun _=> Sem.pure (.slice (some ⟨b,0,none⟩) (g.n+m) g.cap)) H Q;refine vwp_bind _ _ ?_;rw[add_off _ _ rfl];have hlen:new.length=m*sz:=hyn;have hjl:m*sz<=g.junk.length:=by rw[g.hj];exact Nat.mul_le_mul_right _ oM
   refine vwp_storeCells b _ new 0 (g.l++g.junk) hHb (by simp only[List.length_append,g.hl];omega) hs fun H' hH'=> ?_;have hst:stL (g.l++g.junk) (0+g.n*sz+0) new=(g.l++new)++g.junk.drop new.length:=by
    unfold stL;simp only[Nat.zero_add,Nat.add_zero,<-g.hl,List.take_left',List.drop_append];simp
   let g':Gl e sz:=⟨some b,g.n+m,g.cap,g.l++new,g.junk.drop new.length,by simp[g.hl,hlen,Nat.add_mul],hcap,by rw[List.length_drop,g.hj,hlen,<-Nat.sub_mul];congr 1;omega,fun h=> by cases h⟩
   have key:∀x∈g'.bl,H' x.1=some x.2:=by
    intro x hx;simp only[g',Gl.bl,List.mem_singleton] at hx;subst hx;show H' b=some (true,.cells ⟨(g.l++new)++g.junk.drop new.length⟩ e (0,0));rw[hH'];split
    ·rename_i hnil
     subst hnil;simpa using hHb
    ·rw[View.put_same,hst]
   exact hq g' H' rfl rfl (fun b' hb'=> .inl ⟨by cases hb';exact hblk,rfl⟩) (fun c hc=> by
    rw[hH'];split
    ·rfl
    ·rw[View.put_other];intro e;exact hc b rfl e.symm) key
 ·rw[if_neg hcap];have hbytes:=(E.ok _ _ hre).bytes;cases hi:P.info? e with
  | none=> rw[hi] at hbytes;cases hbytes
  | some i=>
   rw[hi] at hbytes;simp only[Option.map_some,Option.some.injEq] at hbytes;have hib:i.bytes<=1000:=by omega
   have hmax:IntKind.i64.max=9223372036854775807:=by decide
   show vwp P ((typeInfo e).bind fun _=> _) H Q;refine vwp_bind (typeInfo e) _ (vwp_typeInfo hi ?_);rw[if_neg (by rw[hmax];omega)];show vwp P ((typeInfo e).bind fun _=> _) H Q;refine vwp_bind (typeInfo e) _ (vwp_typeInfo hi ?_);rw[if_neg]
   ·show vwp P ((choose _).bind fun newCap=> _) H Q;refine vwp_bind (choose _) _ ?_;intro tt;rw[if_neg (by simp[Question.forced])];generalize hnc:(Question.appendCap (g.n+m) g.cap e).cut tt=newCap;have hge:g.n+m<=newCap:=by rw[<-hnc];simp only[Question.cut];omega
    show vwp P ((typeInfo e).bind fun _=> _) H Q;refine vwp_bind (typeInfo e) _ (vwp_typeInfo hi ?_);show vwp P ((askRoom (newCap*i.bytes)).bind fun _=> _) H Q;refine vwp_bind _ _ ?_;have hroom:∀Q':Unit->View->Prop,Q' () H->vwp P (askRoom (newCap*i.bytes)) H Q':=by
     intro Q' h;unfold askRoom;split
     ·exact⟨rfl,h⟩
     ·exact h
    refine hroom _ ?_;show vwp P ((Builtin.firstCells sz g.n (.slice a g.n g.cap)).bind fun _=> _) H Q;rw[<-hga];refine vwp_bind _ _ (vwp_firstCells hold ?_);show vwp P ((Builtin.firstCells sz m y).bind fun _=> _) H Q;refine vwp_bind _ _ (hyf _ ?_);show vwp P ((zeroValue e).bind fun _=> _) H Q;refine vwp_bind (zeroValue e) _ (vwp_zeroValue (E.ok _ _ hre).zero ?_);rw[zeroCells_eq];intro blk hfresh;have hzz:re.zero.cells.size=sz:=by rw[<-Array.length_toList];exact hzs
    let g':Gl e sz:=⟨some blk,g.n+m,newCap,g.l++new,zeroRow re.zero.cells.toList ((newCap-(g.n+m))*re.zero.cells.size),by simp[g.hl,hyn,Nat.add_mul],hge,by rw[zeroRow_len,hzz],fun h=> by cases h⟩
    exact hq g' _ rfl rfl (fun b' hb'=> .inr (by cases hb';exact hfresh)) (fun c hc=> by
     rw[View.put_other];intro e;exact hc blk rfl e.symm) (fun x hx=> by
     simp only[g',Gl.bl,List.mem_singleton] at hx;subst hx;rw[View.put_same];simp)
   ·have h3 : Builtin.nextslicecap (g.n+m) g.cap<=4*1000000000:=by
     unfold Builtin.nextslicecap;split
     ·omega
     ·split
      ·omega
      ·have gb:∀(rounds c:Nat),c<=2*(g.n+m)+1000->Builtin.growBy (g.n+m) rounds c<=2*(g.n+m)+1000:=by
        intro rounds;induction rounds with
        | zero=> exact fun c hc=> hc
        | succ rounds ih=>
         intro c hc;unfold Builtin.growBy;split
         ·exact hc
         ·exact ih _ oM
       have:=gb 4 g.cap oM;omega
    have h4:Builtin.nextslicecap (g.n+m) g.cap*i.bytes<=4*1000000000*1000:=Nat.mul_le_mul h3 hib;omega
theorem vwp_appendX {t xt e:TypeId}{rt:TypeId}{r re:TyRow}{sz m:Nat}{y:Value}{new:List Value}{g:Gl e sz}{H:View}{Q:Value->View->Prop}(ht:E.ty t=some r)(hds:r.ds=.slice e)(hre:E.ty e=some re)(hsz:re.size=sz)(hzs:re.zero.cells.toList.length=sz)
  (hxt:∃rx,E.ty xt=some rx/\rx.ds=.str) (hby:re.bytes<=1000) (hn:g.n+m<=1000000000) (hb:∀x∈g.bl,H x.1=some x.2) (hyl:∀Q:Nat->View->Prop,Q m H->vwp P (Builtin.lenOf y) H Q) (hyf:∀Q:Array Value->View->Prop,Q ⟨new⟩ H->vwp P (Builtin.firstCells sz m y) H Q) (hyn:new.length=m*sz) (hs:new.all single=true)
  (hq:∀(g':Gl e sz) (H':View),g'.n=g.n+m->g'.l=g.l++new->(∀b,g'.blk=some b->(g.blk=some b\/H b=none))->(∀c,(∀b,g'.blk=some b->b≠c)->H' c=H c)->(∀x∈g'.bl,H' x.1=some x.2)->Q g'.val H'):
  vwp P (Builtin.append_ #[t,xt] rt #[g.val,y]) H Q:=
 vwp_appendXC ht hds hre hsz hzs hxt hby hn hb hyl hyf hyn hs fun g' H' h1 h2 h3 h4 h5=> hq g' H' h1 h2 (fun b hb=> (h3 b hb).imp And.left id) h4 h5
theorem Or.appendS(k:Nat)(T:Bl->Bl){Y:Bl}(hT:∀B,(T B).Perm (Y++B)){cl:Go.Call}{x y:Operand}{t xt e:TypeId}{s:List UInt8}{g:Gl e 1}{r re rx:TyRow}(hop:o.op=.call cl)(hcl:cl.callee=.builtin .append)(hat:cl.argTypes=#[t,xt])(har:cl.args=#[x,y])
  (hx:evR R x=some g.val) (hy:evR R y=some (strV s)) (ht:E.ty t=some r) (hds:r.ds=.slice e) (hre:E.ty e=some re) (hsz:re.size=1) (hzs:Nat.beq re.zero.cells.toList.length 1=true) (hxt:E.ty xt=some rx) (hex:rx.ds=.str) (hby:Nat.ble re.bytes 1000=true)
  (hL:L.drop k=T g.bl) (hm:g.n+s.length<=1000000000) (hd:o.dst=some d) (hn:d<n)
  (hk:∀g':Gl e 1,g'.n=g.n+s.length->g'.l=g.l++bytesV s->K ((d,g'.val)::R) (L.take k++T g'.bl)):Or M n H₀ R L o K:=
 .val hd hn fun H tmps hst hr=> by
  have hLe:L=L.take k++T g.bl:=by rw[<-hL,List.take_append_drop]
  unfold execOp;rw[hop];simp only[resolve,hcl,hat,har];have hm':Array.map (evT tmps) #[x,y]=#[g.val,strV s]:=by simp[hr.ev hx,hr.ev hy]
  rw[hm'];have hp:∀B,((L.take k++Y)++B).Perm (L.take k++T B):=fun B=> by rw[List.append_assoc];exact(List.Perm.refl _).append (hT B).symm
  have hst0:=hst;rw[hLe] at hst0;have hst2:SymSt H₀ ((L.take k++Y)++g.bl) H:=hst0.perm (hp g.bl);refine vwp_bind (Builtin.append_ #[t,xt] o.type #[g.val,strV s]) _ ?_;refine vwp_appendX (new:=bytesV s) (m:=s.length) ht hds hre hsz (Nat.eq_of_beq_eq_true hzs) ⟨rx,hxt,hex⟩ (Nat.le_of_ble_eq_true hby) hm (fun z hz=> hst2.at_ z (by simp[hz])) (fun Q hq=> hq) (fun Q hq=> ?_) (by rw[bytesV_len,Nat.mul_one]) (bytesV_single s) fun g' H' h1 h2 h3 h4 h5=> ?_
  ·have e:((ByteArray.mk ⟨s⟩).extract 0 s.length).data.map (fun b=> Value.int .u8 (b.toNat:Int))=⟨bytesV s⟩:=by
    rw[bytes_cut];simp[bytesV]
   show Q (((ByteArray.mk ⟨s⟩).extract 0 s.length).data.map (fun b=> Value.int .u8 (b.toNat:Int))) H;rw[e];exact hq
  ·exact⟨_,rfl,_,(hst2.grown h3 h4 h5).perm (hp g'.bl).symm,hk g' h1 h2⟩
end
end Go.RL
namespace Go.Proofs.YtcagolloalgfiaaGreatDoor
open Go.RL Go.Proofs.Tryz
set_option maxRecDepth 10000
set_option maxHeartbeats 8000000
def dchr(n:Nat):UInt8:=UInt8.ofNat (if n=10 then 48 else 48+n)
theorem fig_at:∀n,1<=n->n<=10->(sgFig.drop (((n:Nat):Int)-1).toNat).take (((n:Nat):Int).toNat-(((n:Nat):Int)-1).toNat)= [dchr n]:=by
 have h:∀n,n<=10->1<=n->(sgFig.drop (((n:Nat):Int)-1).toNat).take (((n:Nat):Int).toNat-(((n:Nat):Int)-1).toNat)= [dchr n]:=by
  intro n h;have:n=0\/n=1\/n=2\/n=3\/n=4\/n=5\/n=6\/n=7\/n=8\/n=9\/n=10:=by omega
  rcases this with rfl|rfl|rfl|rfl|rfl|rfl|rfl|rfl|rfl|rfl|rfl <;> intro h2 <;> first|omega|rfl
 exact fun n h1 h2=> h n h2 h1
theorem dchr_pn {x:UInt8}(h:dig x=true):dchr (pn x)=x:=by
 have h1:48<=x.toNat/\x.toNat<58:=of_decide_eq_true h;have e:(if pn x=10 then 48 else 48+pn x)=x.toNat:=by
  by_cases h2:x.toNat=48
  ·simp[pn,h2]
  ·have h3:¬x.toNat-48=10:=by omega
   simp only[pn,h2,h3,if_false];omega
 unfold dchr;rw[e,UInt8.ofNat_toNat]
theorem e174:Xt prog 174 Extern.AbiNoEscape.same:=⟨Tryz.f174,func174,by kernel_rfl,by kernel_rfl,by kernel_rfl,by kernel_rfl⟩
theorem ptr_b:prog.underlying 206=some (.pointer 208):=by kernel_rfl
theorem un_ptr:prog.underlying 270=some .unsafePointer:=by kernel_rfl
theorem lies_b:liesAt prog prog.depth 208 (2/prog.cellsOf 208) 0 208 1=true:=by kernel_rfl
section
variable(M:Md prog)(H:View)
theorem printed_c(hG:Sig H)(n:Nat)(h1:1<=n)(h2:n<=10):CallT M 118 #[.int .i64 (n:Nat),.int .i64 1] H (fun v H'=> H.le H'/\v=strV [dchr n]):=by
 obtain⟨f4,gt4,gz4,hG4⟩:=hG;have x1:=fig_at n h1 h2;have hl:sgFig.length=26:=rfl;refine .en func118 ntmps118 fun St c cs hK=> ?_;refine U27 ?_;refine .cl (fun H hs=> betweenC_c M H (n:Nat) 1 26 true (decide_eq_true oM)) ?_;refine U11 ?_;refine .x (OpV.sliceS (E:=en) rfl rfl rfl rfl rfl rfl oM oM oM) ?_;refine U2 ?_;refine .rt hK func118 results118 [_] ?_;refine fun H' hs=> ⟨hs.base,?_⟩
 show strV _=_;rw[x1]
theorem shifted_c(n:Nat)(h2:n<=10):CallT M 119 #[.int .i64 (n:Nat),.int .i64 1] H (fun v H'=> H.le H'/\v=.int .i64 1):=by
 refine .en func119 ntmps119 fun St c cs hK=> ?_;refine U29 ?_;refine .rt hK func119 results119 [_] ?_;exact okB
theorem isCode_c(x:Int)(t:Bool)(ht:decide (0<=x/\x<=31)=t):CallT M 116 #[.int .i64 x] H (fun v H'=> H.le H'/\v=.bool t):=by
 refine .en func116 ntmps116 fun St c cs hK=> ?_;refine U7 ?_;refine .cl (fun H hs=> betweenC_c M H x 0 31 t ht) ?_;refine U2 ?_;refine .rt hK func116 results116 [_] ?_;exact okB
theorem noCode_c(x:Int):CallT M 115 #[.int .i64 x] H (fun v H'=> H.le H'/\v=.bool (!decide (0<=x/\x<=31))):=by
 generalize ht:decide (0<=x/\x<=31)=t;refine .en func115 ntmps115 fun St c cs hK=> ?_;refine U7 ?_;refine .cl (fun H hs=> isCode_c M H x t ht) ?_;refine U3 ?_;refine .rt hK func115 results115 [_] ?_;exact okB
theorem areCodes_c(F:Option Addr)(n fc:Nat)(x:Nat->Int)(hF:FreeAt H F n x)(hn:n<=1000000)(hx:∀j,j<n->0<=x j/\x j<=31):CallT M 66 #[.slice F n fc] H (fun v H'=> H.le H'/\v=.bool true):=by
 have hi:=fun(H':View) (h':H.le H')=> ContainsI_c M H' F n fc x (hF.le h') hn (.func (.func 115) #[] #[]) (fun j=> !decide (0<=x j/\x j<=31)) (fun j hj H' _=> .h (noCode_c M H' (x j)));have e:(firstTo (fun j=> !decide (0<=x j/\x j<=31)) n).isSome=false:=by
  rw[(firstTo_none n).2 (fun i hi=> by simp only[decide_eq_true (hx i hi),Bool.not_true])];rfl
 rw[e] at hi;refine .en func66 ntmps66 fun St c cs hK=> ?_;refine U7 ?_;refine .cl (fun H hs=> hi H hs.base) ?_;refine U3 ?_;refine .rt hK func66 results66 [_] ?_;exact okB
def buL(b:Nat)(u:Bool)(g:Gl 5 1):Bl:=(b,true,.cells ⟨[.pointer (if u then some ⟨b,0,none⟩ else none),g.val]⟩ 208 (0,0))::g.bl
theorem copyCheck_c(H₁:View)(b:Nat)(u:Bool)(g:Gl 5 1)(hs₀:SymSt H₁ (buL b u g) H):
  CallT M 154 #[.pointer (some ⟨b,0,none⟩)] H (TurnQ H₁ (fun _:Unit=> .tuple ⟨[]⟩) (fun _=> buL b true g) (fun _=> True)):=by
 cases u with
 | false=>
  refine CallT.enter (vs:= [.pointer (some ⟨b,0,none⟩)]) func154 rfl ntmps154 (Nat.le_of_ble_eq_true rfl) (hs₀) fun St c cs hK=> ?_;refine U6 ?_;refine .x (OpV.ptrNil true rfl rfl rfl ptr_b rfl) ?_;refine U5 ?_;refine .x (OpV.toUn (E:=en) 0 rfl rfl rfl ptr_b un_ptr rfl rfl rfl) ?_;refine .x (OpV.entry rfl rfl rfl rfl e174 (fun H Q hq=> hq)) ?_;refine .x (OpV.fromUn (E:=en) 0 rfl rfl rfl un_ptr ptr_b rfl lies_b) ?_;refine U4 ?_;refine .ov hK func154 results154 [] ?_;exact fun H' hs=> ⟨(),H₁,rfl,View.le_refl _,hs,trivial⟩
 | true=>
  refine CallT.enter (vs:= [.pointer (some ⟨b,0,none⟩)]) func154 rfl ntmps154 (Nat.le_of_ble_eq_true rfl) (hs₀) fun St c cs hK=> ?_;refine U6 ?_;refine .x (OpV.ptrNil false rfl rfl rfl ptr_b rfl) ?_;refine U9 ?_;refine .x (OpV.ptrSame (E:=en) rfl rfl rfl ptr_b rfl rfl) ?_;refine U3 ?_;refine .ov hK func154 results154 [] ?_;exact fun H' hs=> ⟨(),H₁,rfl,View.le_refl _,hs,trivial⟩
def buP(s:List UInt8)(g g':Gl 5 1):Prop:=g'.n=g.n+s.length/\g'.l=g.l++bytesV s
theorem WriteString_c(H₁:View)(b:Nat)(u:Bool)(g:Gl 5 1)(s:List UInt8)(hm:g.n+s.length<=1000000)(hs₀:SymSt H₁ (buL b u g) H):
  CallT M 117 #[.pointer (some ⟨b,0,none⟩),strV s] H (TurnQ H₁ (fun _:Gl 5 1=> .tuple ⟨[.int .i64 (s.length:Nat),.nilIface]⟩) (fun g'=> buL b true g') (buP s g)):=by
 refine CallT.enter (vs:= [.pointer (some ⟨b,0,none⟩),strV s]) func117 rfl ntmps117 (Nat.le_of_ble_eq_true rfl) (hs₀) fun St c cs hK=> ?_;refine U8 ?_;refine .e (Or.callTurn 0 (σ:=Unit) (fun _=> .tuple ⟨[]⟩) (fun _=> buL b true g) (fun _=> True) rfl rfl rfl rfl rfl dE (fun H₁ H₂ hs3 hs4=> .h (copyCheck_c M H₂ H₁ b u g hs4)) (fun _ _=> ?_));refine U9 ?_;refine .e (Or.appendS (E:=en) (g:=g) 1 (fun B=> B) (Y:= []) (fun B=> List.Perm.refl _) rfl rfl rfl rfl rfl rfl rfl rfl rfl rfl rfl rfl rfl rfl rfl oM rfl dE (fun g2 hn2 hl2=> ?_));refine U11 ?_;refine .rt hK func117 results117 [_,_] ?_;exact fun H' hs=> ⟨g2,H₁,rfl,View.le_refl _,hs,hn2,hl2⟩
theorem String_c(H₁:View)(b:Nat)(u:Bool)(g:Gl 5 1)(s:List UInt8)(hne:s≠ [])(hgn:g.n=s.length)(hgl:g.l=bytesV s)(hm:g.n<=1000000)(hs₀:SymSt H₁ (buL b u g) H):
  CallT M 120 #[.pointer (some ⟨b,0,none⟩)] H (TurnQ H₁ (fun _:Unit=> strV s) (fun _=> []) (fun _=> True)):=by
 have hpos:0<s.length:=List.length_pos_iff.2 hne;obtain⟨gb,gn,gc,gl,gj,h1,h2,h3,h4⟩:=g;simp only at hgn hgl hm;subst hgn hgl;cases gb with
 | none=> have:=h4 rfl;omega
 | some gb=>
  have hc0:Nat.beq gc 0=false:=by
   cases gc with
   | zero=> omega
   | succ _=> rfl
  have hlies:liesAt prog prog.depth 5 ((bytesV s++gj).length/prog.cellsOf 5) 0 5 s.length=true:=lies_bytes _ _ (by rw[List.length_append,bytesV_len];omega);have hs1:SymSt H₁ [(b,true,.cells ⟨[.pointer (if u then some ⟨b,0,none⟩ else none),.slice (some ⟨gb,0,none⟩) s.length gc]⟩ 208 (0,0)),(gb,true,.cells ⟨bytesV s++gj⟩ 5 (0,0))] H:=hs₀;refine CallT.enter (vs:= [.pointer (some ⟨b,0,none⟩)]) func120 rfl ntmps120 (Nat.le_of_ble_eq_true rfl) (hs1) fun St c cs hK=> ?_;refine U5 ?_;refine Tc.dr [10] [1] mixed rfl ?_;refine .nw 0 ?_;refine .nw 1 ?_;refine .nw 2 ?_;refine .nw 3 ?_;refine .q 4 rfl (OpV.sliceData rfl rfl rfl rfl rfl hc0) ?_;refine .nw 5 ?_;refine .nw 6 ?_;refine .nw 7 ?_;refine .nw 8 ?_;refine .nn 9 ?_;refine .ea 10 rfl (Or.unsafeStr 1 rfl rfl rfl rfl rfl rfl ptr_byte hne oM rfl hlies rfl dE ⟨S2.mk sL (.inl kR),?_⟩);refine .nw 11 ?_;refine .dn ?_;refine .rt hK func120 results120 [_] ?_;exact fun H' hs=> ⟨(),H₁,rfl,View.le_refl _,hs.sub (List.nil_sublist _),trivial⟩
end
theorem pnAt_rng {s:List UInt8}(h:s.all dig=true)(i:Nat):1<=pnAt s i/\pnAt s i<=10:=by
 unfold pnAt;cases e:s[i]? with
 | none=> decide
 | some x=> exact pn_in (List.all_eq_true.1 h x (List.mem_of_getElem? e))
def pastV(l:List Value):List Value:=.int .i64 1::l
theorem rev3 {α:Type}(x y z:α): [z,y,x].Perm [x,y,z]:=List.reverse_perm [x,y,z]
section
variable(M:Md prog)(H:View)
theorem text_c(hG:Sig H)(s:List UInt8)(hs1:s.all dig=true)(hs2:s.length<=12)(hs3:s≠ [])(ma:Option Addr)(mc:Nat)(l:List Value)(hl2:∀(i:Nat) (x:UInt8),s[i]? =some x->l[i]? =some (Value.int .i64 (pn x:Nat))):
  CallT M 67 #[.agg ⟨[.int .i64 0,.int .i64 0,.int .i64 0,.bool false,.slice ma s.length mc]⟩,.agg ⟨pastV l⟩] H (fun v H'=> H.le H'/\v=strV s):=by
 refine .en func67 ntmps67 fun St c cs hK=> ?_;refine U2 ?_;refine .bo fun b2=> ?_;refine .bo fun b3=> ?_;refine U4 ?_;refine .al fun b5=> ?_;refine U17 ?_;refine Tc.perm (L₁:= [(b2,true,.cells ⟨[.int .i64 0,.int .i64 0,.int .i64 0,.bool false,.slice ma s.length mc]⟩ 153 (0,0)),(b3,true,.cells ⟨pastV l⟩ 148 (0,0)),(b5,true,.cells ⟨[.pointer none,.slice none 0 0]⟩ 208 (0,0))]) (rev3 _ _ _) ?_;refine Tc.db (Tc.loopInv (σ:= { x:Nat×Bool×Gl 5 1//x.1<=s.length/\x.2.2.n=x.1/\x.2.2.l=bytesV (s.take x.1) }) (fun x=> ([(3,.pointer (some ⟨b3,0,none⟩)),(5,.pointer (some ⟨b5,0,none⟩)),(6,.int .i64 1),(13,.int .i64 (s.length:Nat)),(14,.int .i64 (x.1.1:Nat))],(b3,true,.cells ⟨pastV l⟩ 148 (0,0))::buL b5 x.1.2.1 x.1.2.2)) (fun x=> s.length-x.1.1) ?_ ⟨(0,false,Gl.nil 5 1),Nat.zero_le _,rfl,rfl⟩);rintro⟨⟨q,u,g⟩,hq,hgn,hgl⟩ ih;simp only at hq hgn hgl;show Tc M St _ _ _ _ [(3,.pointer (some ⟨b3,0,none⟩)),(5,.pointer (some ⟨b5,0,none⟩)),(6,.int .i64 1),(13,.int .i64 (s.length:Nat)),(14,.int .i64 (q:Nat))] ((b3,true,.cells ⟨pastV l⟩ 148 (0,0))::buL b5 u g) _ _;by_cases c1:q=s.length
 ·clear ih;subst c1;rw[List.take_length] at hgl;refine U9 ?_;refine .e (Or.callTurn 1 (σ:=Unit) (fun _=> strV s) (fun _=> []) (fun _=> True) rfl rfl rfl rfl rfl dE (fun H₁ H₂ hs4 hs5=> .h (String_c M H₂ H₁ b5 u g s hs3 hgn hgl oM hs5)) (fun _ _=> ?_));refine U2 ?_;refine .rt hK func67 results67 [_] ?_;exact okB
 ·have c2:q<s.length:=by omega
  obtain⟨x,hx,hdx,hdec⟩:=dec_dig s q c2 hs1;have hpn:=pn_in hdx;have f1:ldL false 1 (pastV l) (1+((q:Nat):Int).toNat*1)=some (.int .i64 (pn x:Nat)):=by
   show(pastV l)[1+((q:Nat):Int).toNat*1]? =_;rw[Int.toNat_natCast,Nat.mul_one,Nat.add_comm];exact hl2 q x hx
  have hdc:=dchr_pn hdx;have hbt:bytesV (s.take (q+1))=bytesV (s.take q)++bytesV [x]:=by
   obtain⟨hp,rfl⟩:=List.getElem?_eq_some_iff.1 hx;rw[List.take_succ_eq_append_getElem hp,bytesV_app]
  refine U21 ?_;refine .cl (fun H hs=> printed_c M H (hG.le hs.base) (pn x) hpn.1 hpn.2) ?_;refine .e (Or.callTurn 1 (σ:=Gl 5 1) (fun _=> .tuple ⟨[.int .i64 (1:Nat),.nilIface]⟩) (fun g'=> buL b5 true g') (buP [dchr (pn x)] g) rfl rfl rfl rfl rfl dE (fun H₁ H₂ hs4 hs5=> .h (WriteString_c M H₂ H₁ b5 u g [dchr (pn x)] (by simp only[List.length_singleton];omega) hs5)) (fun g2 hg2=> ?_));refine U7 ?_;refine .cl (fun H hs=> shifted_c M H (pn x) hpn.2) ?_;refine U7 ?_;exact Tc.db (ih ⟨(q+1,true,g2),by simp only;omega,by simp only;rw[hg2.1,hgn];rfl,by simp only;rw[hg2.2,hgl,hbt,hdc]⟩ (by simp only;omega))
theorem Decode_c(hG:Sig H)(s:List UInt8)(hs1:s.all dig=true)(hs2:s.length<=12)(hs3:s≠ [])(F:Option Addr)(fc:Nat)(hF:SrcAt H 1 (.slice F s.length fc) s.length (codesL s))(hF2:FreeAt H F s.length (fun i=> (pnAt s i:Nat))):
  CallT M 29 #[.slice F s.length fc,.int .i64 1] H (fun v H'=> H.le H'/\v=.tuple ⟨[strV s,.int .i64 0]⟩):=by
 have hst:stL (pastV (List.replicate 12 (.int .i64 0))) 1 (codesL s)=pastV (codesL s++List.replicate (12-s.length) (.int .i64 0)):=by
  have h1:(codesL s).length=s.length:=by simp[codesL]
  unfold stL pastV;simp only[List.take_succ_cons,List.take_zero,List.cons_append,List.nil_append,h1,Nat.add_comm 1 s.length,List.drop_succ_cons,List.drop_replicate]
 have hpn:=fun j=> pnAt_rng hs1 j;have hcd:∀(i:Nat) (x:UInt8),s[i]? =some x->(codesL s++List.replicate (12-s.length) (.int .i64 0))[i]? =some (Value.int .i64 (pn x:Nat)):=fun i x hx=> by
  rw[List.getElem?_append_left (by simp only[codesL,List.length_map];exact(List.getElem?_eq_some_iff.1 hx).1)];simp only[codesL,List.getElem?_map,hx];rfl
 have hld:ldL true 13 (pastV (codesL s++List.replicate (12-s.length) (.int .i64 0))) 0=some (.agg ⟨pastV (codesL s++List.replicate (12-s.length) (.int .i64 0))⟩):=by
  have h1:(pastV (codesL s++List.replicate (12-s.length) (.int .i64 0))).length=13:=by
   simp only[pastV,codesL,List.length_cons,List.length_append,List.length_map,List.length_replicate];omega
  unfold ldL;simp only[h1,List.drop_zero];rw[List.take_of_length_le oM]
 refine .en func29 ntmps29 fun St c cs hK=> ?_;refine U29 ?_;refine .cl (fun H hs=> areCodes_c M H F s.length fc _ (hF2.le hs.base) oM (fun j hj=> by have:=hpn j;exact⟨by show(0:Int)<=((pnAt s j:Nat):Int);omega,by show((pnAt s j:Nat):Int)<=31;omega⟩)) ?_;refine U10 ?_;refine .al fun b6=> ?_;refine U5 ?_;refine .x (OpV.sliceA (E:=en) (l:=0) (h:=12) rfl rfl rfl rfl rfl rfl rfl rfl oM oM oM rfl) ?_;refine U ?_;refine .e (Or.copyAt (E:=en) 0 rfl rfl rfl rfl rfl rfl rfl rfl rfl rfl rfl (fun H hs=> hF.mono hs.base) (by simp[codesL,single]) hs2 (Nat.le_of_ble_eq_true rfl) rfl dE hst ?_);refine U2 ?_;refine Tc.dr [] [] mixed rfl ?_;refine V2 0 ?_;refine .nn 5 ?_;refine .ea 2 rfl (Or.makeSlice (E:=en) (len:=s.length) (cap:=s.length) rfl rfl rfl rfl rfl rfl (Nat.le_refl _) oM rfl rfl dE (fun b30=> ⟨S2.mk sL (.inr sL),?_⟩));refine V2 3 ?_;refine .z 6 rfl (OpV.tk fun H hs=> text_c M H (hG.le hs.base) s hs1 hs2 hs3 (some ⟨b30,0,none⟩) s.length _ hcd) ?_;refine V2 7 ?_;refine .dn ?_;refine .rt hK func29 results29 [_,_] ?_;exact okB
end
end Go.Proofs.YtcagolloalgfiaaGreatDoor
section

end
section

end
section

end
namespace Go.Proofs.YtcagolloalgfiaaGreatDoor
open Go.RL Go.Proofs.Tryz
set_option maxRecDepth 10000
set_option maxHeartbeats 8000000
def quadV(x:Int×Int×Int×Int):List Value:= [.int .i64 x.1,.int .i64 x.2.1,.int .i64 x.2.2.1,.int .i64 x.2.2.2]
def quadsV(l:List (Int×Int×Int×Int)):List Value:=l.flatMap quadV
abbrev Quad:=Int×Int×Int×Int
def QuadsAt(H:View)(A:Option Addr)(l:List Quad):Prop:=
 l= []\/∃b o f gs gt gz,A=some ⟨b,o,none⟩/\H b=some (f,.cells ⟨gs⟩ gt gz)/\∀(j:Nat) x,l[j]? =some x->ldL true 4 gs (o+(j:Int).toNat*4)=some (trainV x.1 x.2.1 x.2.2.1 x.2.2.2)
theorem quads_len:∀l,(quadsV l).length=l.length*4
 | []=> rfl
 | x::t=> by
  have:=quads_len t;show(quadV x++quadsV t).length=_;rw[List.length_append,this,List.length_cons];show 4+_=_;omega
theorem quads_drop:∀(l:List Quad) (j:Nat) x (rest:List Value),l[j]? =some x->((quadsV l++rest).drop (j*4)).take 4=quadV x
 | [],_,_,_,h=> by cases h
 | y::t,0,x,rest,h=> by
  cases h
  show((quadV y++quadsV t)++rest).take 4=_;rw[List.append_assoc];rfl
 | y::t,j+1,x,rest,h=> by
  have:=quads_drop t j x rest h;show(((quadV y++quadsV t)++rest).drop ((j+1)*4)).take 4=_;rw[List.append_assoc,show(j+1)*4=4+j*4 by omega,<-List.drop_drop];exact this
theorem quads_of(g:Gl 73 4){H:View}(h:∀x∈g.bl,H x.1=some x.2){l:List Quad}(hl:g.l=quadsV l):QuadsAt H (g.blk.map fun b=> ⟨b,0,none⟩) l:=by
 have hgl:=g.hl;rw[hl,quads_len] at hgl;cases hbb:g.blk with
 | none=>
  have:=g.h0 hbb;have:=g.hc;exact .inl (List.eq_nil_of_length_eq_zero oM)
 | some b=>
  have hbl:g.bl= [(b,true,.cells ⟨g.l++g.junk⟩ 73 (0,0))]:=by unfold Gl.bl;rw[hbb]
  refine .inr ⟨b,0,true,_,73,(0,0),rfl,h (b,true,.cells ⟨g.l++g.junk⟩ 73 (0,0)) (by rw[hbl];simp),fun j x hx=> ?_⟩;have hjl:=(List.getElem?_eq_some_iff.1 hx).1;rw[Nat.zero_add,Int.toNat_natCast];unfold ldL;have hlen:j*4+4<=(g.l++g.junk).length:=by rw[List.length_append,hl,quads_len];omega
  rw[show Nat.ble (j*4+4) (g.l++g.junk).length=true from Nat.ble_eq_true_of_le hlen,hl];simp only[quads_drop l j x g.junk hx];rfl
end Go.Proofs.YtcagolloalgfiaaGreatDoor
namespace Go.Proofs.YtcagolloalgfiaaGreatDoor.Sg
open Go.RL Go.Proofs.Tryz
set_option maxRecDepth 10000
set_option maxHeartbeats 4000000
theorem readN_iff:∀v:Nat,v<128->∀n:Nat,n<32->(readN v=some n<->v=64+2*n):=by decide +kernel
theorem readN_lt {v n:Nat}(h:readN v=some n):n<32:=by
 unfold readN at h;split at h
 ·cases h
  omega
 ·cases h
def Lk.canRead(k:Lk)(c n:Nat):Bool:=k.sees c (64+2*n)
def Lk.bad(k:Lk)(c:Nat):Bool:=(List.range 128).any fun v=> k.sees c v&&(readN v).isNone
def Lk.refused(k:Lk)(c:Nat):Int:=if k.bad c then(if(keepTo (k.canRead c) 32).length=0 then 1 else 0) else 2
set_option maxHeartbeats 8000000
theorem Lk.wrong_none {k:Lk}{c:Nat}:k.wrong c=none<->∀s∈k.stgs c,s.wrong (rightN c)=none:=by
 unfold Lk.wrong;rw[List.findSome?_eq_none_iff]
theorem missedGo_to(pace after:Int):∀(f:Nat) (n j:Int),n<=j->j<missedGo pace after f n->(2*j+1)*pace<after
 | 0,n,j,h1,h2=> by simp[missedGo] at h2;omega
 | f + 1,n,j,h1,h2=> by
  unfold missedGo at h2;split at h2
  ·rename_i hlt
   by_cases e:j=n
   ·subst e;exact hlt
   ·exact missedGo_to pace after f (n+1) j oM h2
  ·omega
theorem missedF_to {pace after j:Int}(h0:0<=j)(h:j<missedF pace after):(2*j+1)*pace<after:=missedGo_to pace after 7 0 j h0 h
theorem missedF_iff {pace after:Int}(hp:0<pace){m:Int}(h0:0<=m)(h7:m<7):m<missedF pace after<->(2*m+1)*pace<after:=by
 constructor
 ·exact missedF_to h0
 ·intro h;obtain⟨h1,h2,h3⟩:=missedF_in pace after;by_cases e:m<missedF pace after
  ·exact e
  ·have h4:=h3 oM;have h5:(2*missedF pace after+1)*pace<=(2*m+1)*pace:=Int.mul_le_mul_of_nonneg_right oM oM;omega
theorem missedF_mono {pace a b:Int}(hp:0<pace)(h:a<=b):missedF pace a<=missedF pace b:=by
 obtain⟨h1,h2,_⟩:=missedF_in pace a;obtain⟨g1,g2,_⟩:=missedF_in pace b;by_cases e:missedF pace a<=missedF pace b
 ·exact e
 ·have h4:=missedF_to (pace:=pace) (after:=a) g1 oM;have:=(missedF_iff (after:=b) hp g1 oM).2 oM;omega
theorem optGo_all {read mt after:Int}(hr:0<read):∀(f:Nat) (n m:Int),n<=m->m<=mt->(mt+1-n).toNat<=f->∃o∈optGo read mt after f n,o.1=missedF read (after+m)/\n<=o.2/\o.2<=m
 | 0,n,m,h1,h2,h3=> by omega
 | f + 1,n,m,h1,h2,h3=> by
  unfold optGo;rw[if_pos oM];by_cases e:missedF read (after+m)=missedF read (after+n)
  ·exact⟨_,List.mem_cons_self,e.symm,Int.le_refl _,h1⟩
  ·have h4:=missedF_mono (pace:=read) hr (show after+n<=after+m by omega);have h5:=missedF_in read (after+n);have h6:=missedF_in read (after+m);rw[if_neg oM];have h7:=h5.2.2 oM;have h8:=missedF_to (pace:=read) (after:=after+m) h5.1 oM;obtain⟨o,ho,h9,h10,h11⟩:=optGo_all (after:=after) hr f ((2*missedF read (after+n)+1)*read+1-after) m oM h2 oM;exact⟨o,List.mem_cons_of_mem _ ho,h9,oM,h11⟩
theorem optGo_is {read mt after:Int}:∀(f:Nat) (n:Int) (o:Int×Int),o∈optGo read mt after f n->n<=o.2/\o.2<=mt/\o.1=missedF read (after+o.2)
 | 0,n,o,h=> by cases h
 | f + 1,n,o,h=> by
  unfold optGo at h;split at h
  ·rename_i hn
   rcases List.mem_cons.1 h with rfl|h
   ·exact⟨Int.le_refl _,hn,rfl⟩
   ·split at h
    ·cases h
    ·rename_i h7
     have h5:=missedF_in read (after+n);obtain⟨h1,h2,h3⟩:=optGo_is f _ o h;have:=h5.2.2 h7;exact⟨oM,h2,h3⟩
  ·cases h
def Stg.miss(s:Stg)(i:Nat)(m:Int):Int:=if i=0 then 0 else missedF s.read (s.after (s.ps[i]?.getD 0) i+m)
def Stg.may(s:Stg)(i:Nat)(m:Int):Prop:=if i=0 then m=s.first else s.mf<=m/\m<=s.mt
theorem Stg.opts_all {s:Stg}(hr:0<s.read){i:Nat}{m:Int}(h:s.may i m):∃o∈s.opts (s.ps[i]?.getD 0) i,o.1=s.miss i m/\o.2<=m:=by
 unfold Stg.may at h;unfold Stg.opts Stg.miss;split at h
 ·rename_i hi
  subst hi;rw[if_pos rfl,if_pos rfl];exact⟨_,List.mem_cons_self,rfl,oM⟩
 ·rename_i hi
  rw[if_neg hi,if_neg hi];obtain⟨o,h1,h2,h3,h4⟩:=optGo_all (read:=s.read) (mt:=s.mt) (after:=s.after (s.ps[i]?.getD 0) i) hr (s.mt+1-s.mf).toNat s.mf m h.1 h.2 (Nat.le_refl _);exact⟨o,h1,h2,h4⟩
theorem Stg.opts_is {s:Stg}{i:Nat}{o:Int×Int}(h:o∈s.opts (s.ps[i]?.getD 0) i):s.may i o.2/\o.1=s.miss i o.2:=by
 unfold Stg.opts at h;unfold Stg.may Stg.miss;split at h
 ·rename_i hi
  simp only[List.mem_singleton] at h;subst h;subst hi;exact⟨by simp,by simp⟩
 ·rename_i hi
  obtain⟨h1,h2,h3⟩:=optGo_is _ _ _ h;rw[if_neg hi,if_neg hi];exact⟨⟨h1,h2⟩,h3⟩
def Stg.viewFrom(s:Stg)(i v:Nat):List Int->Nat
 | []=> v
 | m::l=> s.viewFrom (i+1) (turnedN v (s.miss i m).toNat) l
def Stg.mayAll(s:Stg)(i:Nat):List Int->Prop
 | []=> True
 | m::l=> s.may i m/\s.mayAll (i+1) l
def Stg.view(s:Stg)(mv:List Int):Nat:=s.viewFrom 0 127 mv
theorem Stg.leaves_all {s:Stg}(hr:0<s.read):∀(l:List Int) (i v:Nat) (pre:List Int),s.mayAll i l->∃x∈s.leaves l.length i v pre,x.1=s.viewFrom i v l
 | [],i,v,pre,_=> ⟨(v,pre),by simp[Stg.leaves],rfl⟩
 | m ::l,i,v,pre,h=> by
  obtain⟨o,h1,h2,_⟩:=Stg.opts_all hr h.1;obtain⟨x,h3,h4⟩:=Stg.leaves_all hr l (i+1) (turnedN v o.1.toNat) (pre++[o.2]) h.2;refine⟨x,?_,?_⟩
  ·simp only[List.length_cons,Stg.leaves];exact List.mem_flatMap.2 ⟨o,h1,h3⟩
  ·rw[h4,h2];rfl
theorem Stg.leaves_is {s:Stg}:∀(d i v:Nat) (pre:List Int) (x:Nat×List Int),x∈s.leaves d i v pre->∃l:List Int,l.length=d/\x.2=pre++l/\s.mayAll i l/\x.1=s.viewFrom i v l
 | 0,i,v,pre,x,h=> by
  simp only[Stg.leaves,List.mem_singleton] at h;subst h;exact⟨[],rfl,by simp,trivial,rfl⟩
 | d+1,i,v,pre,x,h=> by
  unfold Stg.leaves at h;obtain⟨o,h1,h2⟩:=List.mem_flatMap.1 h;obtain⟨h3,h4⟩:=Stg.opts_is h1;obtain⟨l,h5,h6,h7,h8⟩:=Stg.leaves_is d (i+1) _ _ x h2;refine⟨o.2::l,by simp[h5],by rw[h6];simp,⟨h3,h7⟩,?_⟩;rw[h8,h4];rfl
theorem Stg.all_mem {s:Stg}(hr:0<s.read){v:Nat}:(∃x∈s.all,x.1=v)<->∃mv:List Int,mv.length=s.ps.length/\s.mayAll 0 mv/\s.view mv=v:=by
 constructor
 ·rintro⟨x,hx,rfl⟩;obtain⟨l,h1,h2,h3,h4⟩:=Stg.leaves_is _ _ _ _ _ hx;exact⟨l,h1,h3,h4.symm⟩
 ·rintro⟨mv,h1,h2,rfl⟩;obtain⟨x,h3,h4⟩:=Stg.leaves_all hr mv 0 127 [] h2;exact⟨x,by unfold Stg.all;rw[<-h1];exact h3,h4⟩
theorem nxR_true {os:List (Int×Int)}{R:Nat->Bool}{w:Nat}:nxR os R 128 0 w=true<->∃u,u<128/\R u=true/\∃o∈os,toV u o=w:=by
 unfold nxR;simp only[List.take_zero,List.any_nil,Bool.false_and,Bool.or_false,List.any_eq_true,List.mem_range,Bool.and_eq_true,beq_iff_eq];constructor
 ·rintro⟨u,h1,⟨o,h2,h3⟩,h4⟩;exact⟨u,h1,h4,o,h2,h3⟩
 ·rintro⟨u,h1,h4,o,h2,h3⟩;exact⟨u,h1,⟨o,h2,h3⟩,h4⟩
theorem Stg.viewFrom_snoc(s:Stg):∀(l:List Int) (i v:Nat) (m:Int),s.viewFrom i v (l++[m])=turnedN (s.viewFrom i v l) (s.miss (i+l.length) m).toNat
 | [],i,v,m=> rfl
 | a::l,i,v,m=> by
  show s.viewFrom (i+1) _ (l++[m])=_;rw[Stg.viewFrom_snoc s l];simp only[List.length_cons];rw[show i+1+l.length=i+(l.length+1) by omega];rfl
theorem Stg.mayAll_snoc(s:Stg):∀(l:List Int) (i:Nat) (m:Int),s.mayAll i (l++[m])<->s.mayAll i l/\s.may (i+l.length) m
 | [],i,m=> by simp[Stg.mayAll]
 | a::l,i,m=> by
  simp only[List.cons_append,Stg.mayAll,List.length_cons];rw[Stg.mayAll_snoc s l,show i+1+l.length=i+(l.length+1) by omega,and_assoc]
theorem Stg.miss_in {s:Stg}(i:Nat)(m:Int):0<=s.miss i m/\s.miss i m<=7:=by
 unfold Stg.miss;split
 ·omega
 ·have:=missedF_in s.read (s.after (s.ps[i]?.getD 0) i+m);omega
theorem Stg.viewFrom_lt(s:Stg):∀(l:List Int) (i v:Nat),v<128->s.viewFrom i v l<128
 | [],_,_,h=> h
 | m::l,i,v,h=> by
  have:=Stg.miss_in (s:=s) i m;exact Stg.viewFrom_lt s l (i+1) _ (turned_lt v h _ oM)
theorem Stg.reachTo_iff {s:Stg}(hr:0<s.read):∀(k:Nat) (w:Nat),s.reachTo k w=true<->∃mv:List Int,mv.length=k/\s.mayAll 0 mv/\s.view mv=w
 | 0,w=> by
  constructor
  ·intro h;simp only[Stg.reachTo,beq_iff_eq] at h;exact⟨[],rfl,trivial,h.symm⟩
  ·rintro⟨mv,h1,_,h3⟩;cases List.eq_nil_of_length_eq_zero h1
   simp only[Stg.reachTo,beq_iff_eq];exact h3.symm
 | k + 1,w=> by
  unfold Stg.reachTo;rw[nxR_true];constructor
  ·rintro⟨u,h1,h2,o,h3,h4⟩;obtain⟨mv,h5,h6,h7⟩:=(Stg.reachTo_iff hr k u).1 h2;obtain⟨h8,h9⟩:=Stg.opts_is h3;refine⟨mv++[o.2],by simp[h5],(Stg.mayAll_snoc s mv 0 o.2).2 ⟨h6,by rw[Nat.zero_add,h5];exact h8⟩,?_⟩;unfold Stg.view at h7 ⊢;rw[Stg.viewFrom_snoc,h7,Nat.zero_add,h5,<-h9];exact h4
  ·rintro⟨mv,h1,h2,h3⟩;obtain⟨mv',m,rfl⟩:∃mv' m,mv=mv'++[m]:=by
    refine⟨mv.dropLast,mv.getLast (by intro e;rw[e] at h1;cases h1),?_⟩;exact(List.dropLast_concat_getLast _).symm
   simp only[List.length_append,List.length_cons,List.length_nil,Nat.zero_add,Nat.add_right_cancel_iff] at h1;obtain⟨h4,h5⟩:=(Stg.mayAll_snoc s mv' 0 m).1 h2;rw[Nat.zero_add,h1] at h5;obtain⟨o,h6,h7,_⟩:=Stg.opts_all hr h5;refine⟨s.view mv',Stg.viewFrom_lt s mv' 0 127 dE,(Stg.reachTo_iff hr k _).2 ⟨mv',h1,h4,rfl⟩,o,h6,?_⟩;unfold Stg.view at h3;rw[Stg.viewFrom_snoc,Nat.zero_add,h1,<-h7] at h3;exact h3
theorem Stg.reach_iff {s:Stg}(hr:0<s.read){w:Nat}:s.reach w=true<->∃mv:List Int,mv.length=s.ps.length/\s.mayAll 0 mv/\s.view mv=w:=Stg.reachTo_iff hr _ _
theorem Stg.reach_all {s:Stg}(hr:0<s.read){w:Nat}:s.reach w=true<->∃x∈s.all,x.1=w:=(Stg.reach_iff hr).trans (Stg.all_mem hr).symm
theorem Stg.wrong_none {s:Stg}(hr:0<s.read){rt:Nat}:s.wrong rt=none<->∀w,s.reach w=true->w=rt:=by
 unfold Stg.wrong;rw[Option.map_eq_none_iff,List.find?_eq_none];constructor
 ·intro h w hw;obtain⟨x,hx,rfl⟩:=(Stg.reach_all hr).1 hw;have:=h x hx;simpa [notRt] using this
 ·intro h x hx;have:=h x.1 ((Stg.reach_all hr).2 ⟨x,hx,rfl⟩);simp[notRt,this]
theorem Lk.wrong_sees {k:Lk}(hk:1<=k.r0){c:Nat}:k.wrong c=none<->∀w,k.sees c w=true->w=rightN c:=by
 rw[Lk.wrong_none];have hr:∀s∈k.stgs c,0<s.read:=fun s hs=> by
  obtain⟨a,r,n,f,h1,h2,h3,h4,rfl⟩:=Lk.mem_stgs.1 hs;show 0<r;omega
 unfold Lk.sees;simp only[List.any_eq_true];constructor
 ·rintro h w ⟨s,hs,hw⟩;exact(Stg.wrong_none (hr s hs)).1 (h s hs) w hw
 ·intro h s hs;exact(Stg.wrong_none (hr s hs)).2 fun w hw=> h w ⟨s,hs,hw⟩
end Go.Proofs.YtcagolloalgfiaaGreatDoor.Sg
