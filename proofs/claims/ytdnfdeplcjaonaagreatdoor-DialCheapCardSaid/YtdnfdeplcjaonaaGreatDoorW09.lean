/-
  Texts of the proofs over baudot/dial: OI R5.
-/
import Derived.Test.YtdnfdeplcjaonaaGreatDoorW08
namespace Go.Proofs.YtdnfdeplcjaonaaGreatDoor
open Go.RL Go.Proofs.Tryz
set_option maxRecDepth 10000
set_option maxHeartbeats 16000000
def BytesAt(H:View)(F:Option Addr)(n:Nat)(x:Nat→Nat):Prop:=
 n=0∨∃b o f gs gt gz,F=some ⟨b,o,none⟩∧H b=some (f,.cells ⟨gs⟩ gt gz)∧∀j:Nat,j<n→ldL false 1 gs (o+(j:Int).toNat*1)=some (.int .u8 (x j:Nat))∧x j<256
theorem strsV_cut {out:List (List UInt8)}{l m:Nat}:((strsV out).drop l).take m=strsV ((out.drop l).take m):=by
 unfold strsV;rw[List.map_take,List.map_drop]
theorem num_len {s:List UInt8}(h:isNum s=true):s.length≤1000:=by
 unfold isNum at h;simp only[Bool.and_eq_true,decide_eq_true_eq] at h;omega
def okG(can gv:List (List UInt8)):Prop:=∀(i:Nat) s,gv[i]? =some s→s∈can∧nearL (gv.take i) s=false
theorem okG_snoc {can gv:List (List UInt8)}{s:List UInt8}(h:okG can gv)(h1:s∈can)(h2:nearL gv s=false):okG can (gv++[s]):=fun i y hy=> by
 by_cases c:i<gv.length
 · rw[List.getElem?_append_left c] at hy;rw[List.take_append_of_le_length (by omega)];exact h i y hy
 · have hi:=(List.getElem?_eq_some_iff.1 hy).1;rw[List.length_append] at hi;have e:i=gv.length:=by
     have:i<gv.length+1:=hi;omega
   subst e;rw[List.getElem?_append_right (Nat.le_refl _),Nat.sub_self] at hy;have:s=y:=by simpa using hy
   subst this;rw[List.take_left];exact⟨h1,h2⟩
theorem okG_mem {can gv:List (List UInt8)}(h:okG can gv){s:List UInt8}(hs:s∈gv):s∈can:=by
 obtain⟨i,hi,rfl⟩:=List.getElem_of_mem hs;exact(h i _ (List.getElem?_eq_getElem hi)).1
section
variable(H:View)
theorem cheap_use(A:Option Addr)(nw wc:Nat)(w:Nat→Int)(hA:FreeAt H A nw w)(hn:1≤nw∧nw≤3)(hw:∀i,i<nw→0≤w i∧w i≤99)(d m:Nat)(hd:1≤d∧d≤2)(hm:1≤m∧m≤2):
   ∃ (b1:List (List UInt8)) (t1 l1:Int) (n2:Nat) (t2 l2:Int) (n3:Nat) (t3 l3:Int),
     ((l1=9∧b1= []∧t1=0∧∀gv,okG (canTo m d) gv→gv.length≠nw)∨(l1=0∧l2=0∧l3=0∧b1.length=nw∧okG (canTo m d) b1∧t1=costL w b1∧t2≤t1∧t3≤t1∧∀gv,okG (canTo m d) gv→gv.length=nw→t1≤costL w gv))∧
     (∀H',H.le H'→CallT (Mp prog) 53 #[.slice A nw wc,.int .i64 (d:Nat),.int .i64 (m:Nat)] H' (fun v H''=> H'.le H''∧∃a c',v=cheapV (.slice a b1.length c') t1 l1∧SrcAt H'' 1 (.slice a b1.length c') b1.length (strsV b1)∧b1.length≤c'))∧
     (∀H',H.le H'→CallT (Mp prog) 53 #[.slice A nw wc,.int .i64 ((d+1:Nat):Int),.int .i64 (m:Nat)] H' (fun v H''=> H'.le H''∧∃a c',v=cheapV (.slice a n2 c') t2 l2))∧
     ∀H',H.le H'→CallT (Mp prog) 53 #[.slice A nw wc,.int .i64 (d:Nat),.int .i64 ((m+1:Nat):Int)] H' (fun v H''=> H'.le H''∧∃a c',v=cheapV (.slice a n3 c') t3 l3):=by
 have hw0:∀i,i<nw→0≤w i:=fun i hi=> (hw i hi).1;have hww:(firstTo (fun j=> !weightOk (w j)) nw).isSome=false:=by
   have h1:firstTo (fun j=> !weightOk (w j)) nw=none:=(firstTo_none _).2 fun i hi=> by
     have:weightOk (w i)=true:=decide_eq_true (hw i hi);rw[this];rfl
   rw[h1];rfl
 have k1:=fun(H':View) (h:H.le H')=> Cheapest_k (Mp prog) H' A nw wc w (hA.le h) d m (by omega) hww (by omega) (by omega);have k2:=fun(H':View) (h:H.le H')=> Cheapest_k (Mp prog) H' A nw wc w (hA.le h) (d+1) m (by omega) hww (by omega) (by omega);have k3:=fun(H':View) (h:H.le H')=> Cheapest_k (Mp prog) H' A nw wc w (hA.le h) d (m+1) (by omega) hww (by omega) (by omega);have q1:=fun h=> cheap_best (d:=d) (m:=m) hw0 (by omega) (by omega) h;have q2:=fun h=> cheap_more (d:=d) (m:=m) (d':=d+1) (m':=m) hw0 (by omega) (by omega) (by omega) (by omega) (fun s hs=> canTo_digits hs) h;have q3:=fun h=> cheap_more (d:=d) (m:=m) (d':=d) (m':=m+1) hw0 (by omega) (by omega) (by omega) (by omega) (fun s hs=> canTo_most m (by omega) d (by omega) s hs) h;have q4:=fun(gv:List (List UInt8)) (h:okG (canTo m d) gv) (hl:gv.length=nw)=> cheap_given (w:=w) (d:=d) (m:=m) hw0 (by omega) (by omega) h hl;have q5:(cheap w nw d m).done=false→(cheap w nw d m).best= []∧(cheap w nw d m).total=0:=fun h=> by
   rcases cheap_cases (digits:=d) (most:=m) hw0 (by omega) (by omega) with ⟨_,e⟩|⟨b,hb,e⟩
   · rw[e];exact⟨rfl,rfl⟩
   · rw[e] at h;cases h
 generalize cheap w nw d m=C1 at k1 q1 q2 q3 q4 q5;generalize cheap w nw (d+1) m=C2 at k2 q2;generalize cheap w nw d (m+1)=C3 at k3 q3;refine⟨C1.best,C1.total,C1.al,C2.best.length,C2.total,C2.al,C3.best.length,C3.total,C3.al,?_,fun H' h=> CallT.mono (k1 H' h) ?_,fun H' h=> CallT.mono (k2 H' h) ?_,fun H' h=> CallT.mono (k3 H' h) ?_⟩
 · cases hdn:C1.done with
   | false=>
     obtain⟨e1,e2⟩:=q5 hdn;refine .inl ⟨by unfold ChSt.al;rw[hdn];rfl,e1,e2,fun gv hg hl=> ?_⟩;have:=(q4 gv hg hl).1;rw[hdn] at this;cases this
   | true=>
     obtain⟨e1,e2,e3⟩:=q1 hdn;obtain⟨e4,e5⟩:=q2 hdn;obtain⟨e6,e7⟩:=q3 hdn;exact .inr ⟨by unfold ChSt.al;rw[hdn];rfl,by unfold ChSt.al;rw[e4];rfl,by unfold ChSt.al;rw[e6];rfl,e1,e2,e3,e5,e7,fun gv hg hl=> (q4 gv hg hl).2⟩
 · rintro v H'' ⟨h1,a,n,c',rfl,rfl,h3,h4⟩;exact⟨h1,a,c',rfl,h3,h4⟩
 · rintro v H'' ⟨h1,a,n,c',rfl,rfl,h3,h4⟩;exact⟨h1,a,c',rfl⟩
 · rintro v H'' ⟨h1,a,n,c',rfl,rfl,h3,h4⟩;exact⟨h1,a,c',rfl⟩
theorem Cheap_w {St:View→Goroutine→Prop}{cs:List Frame}(hG:Glob H)(C:Option Addr)(nc cc:Nat)(c0:Nat→Nat)(hC:BytesAt H C nc c0)(p q:Nat)(hp:p<256)(hq:q<256)(X:Option Addr)(n xc:Nat)(x:Nat→Nat)(hX:PicksAt H X n x)
   (hR:∀(H₀:View) (R:Rg) (L:Bl) (kk:List Item),lk R 8=some (.bool true)→H.le H₀→Tc (Mp prog) St 220 ⟨10,.normal,none⟩ H₀ cs R L [] (.code .ret::kk)):
   Tc (Mp prog) St 220 ⟨10,.normal,none⟩ H cs (argR [.slice C nc cc,.int .u8 (p:Nat),.int .u8 (q:Nat),.slice X n xc]) [] [] [.code (bodyOf Tryz.f10)]:=by
 have hlives:=fun(H':View) (h:H.le H')=> lives_c H' (glob_le hG h);by_cases c1:nc=0
 · subst c1;refine U19 ?_;refine .c rfl rfl rfl rfl (fun H hs=> .h (hlives H hs.base)) ?_;refine U2 ?_;exact hR _ _ _ _ rfl (View.le_refl _)
 by_cases c2:3<nc
 · refine U19 ?_;refine .c rfl rfl rfl rfl (fun H hs=> .h (hlives H hs.base)) ?_;refine U2 ?_;exact hR _ _ _ _ rfl (View.le_refl _)
 have hnc:1≤nc∧nc≤3:=by omega
 have wp:IntKind.i64.wrap ((p:Nat):Int)=((p:Nat):Int):=wrap64 (by omega) (by omega);have wq:IntKind.i64.wrap ((q:Nat):Int)=((q:Nat):Int):=wrap64 (by omega) (by omega);have rp:intBin .rem .i64 ((p:Nat):Int) 2=some (.int .i64 ((p%2:Nat):Int)):=by rw[rem_in (by omega) (by omega)];congr 2
 have rq:intBin .rem .i64 ((q:Nat):Int) 2=some (.int .i64 ((q%2:Nat):Int)):=by rw[rem_in (by omega) (by omega)];congr 2
 obtain⟨d,hd⟩:∃d:Nat,d=1+p%2:=⟨_,rfl⟩
 obtain⟨m,hm⟩:∃m:Nat,m=1+q%2:=⟨_,rfl⟩
 have ap:intBin .add .i64 1 ((p%2:Nat):Int)=some (.int .i64 ((d:Nat):Int)):=by rw[add_in (by omega) (by omega)];congr 2;omega
 have aq:intBin .add .i64 1 ((q%2:Nat):Int)=some (.int .i64 ((m:Nat):Int)):=by rw[add_in (by omega) (by omega)];congr 2;omega
 have hd2:1≤d∧d≤2:=by omega
 have hm2:1≤m∧m≤2:=by omega
 have ad:intBin .add .i64 ((d:Nat):Int) 1=some (.int .i64 ((d+1:Nat):Int)):=by rw[add_in (by omega) (by omega)];rfl
 have am:intBin .add .i64 ((m:Nat):Int) 1=some (.int .i64 ((m+1:Nat):Int)):=by rw[add_in (by omega) (by omega)];rfl
 clear hd hm;obtain⟨w,hw⟩:∃w:Nat→Int,w=fun j=> ((c0 j%100:Nat):Int):=⟨_,rfl⟩
 have hw99:∀i,i<nc→0≤w i∧w i≤99:=fun i _=> by rw[hw];exact⟨Int.natCast_nonneg _,by show((c0 i%100:Nat):Int)≤99;omega⟩
 refine U41 ?_;refine Tc.db (Tc.loopInv (σ:= { y:Nat×Gl 3 1//y.1≤nc∧y.2.n=y.1∧y.2.l=clL w y.1 }) (fun y=> ([(0,.slice C nc cc),(3,.slice X n xc),(9,.int .i64 (d:Nat)),(10,.int .i64 (m:Nat)),(11,y.1.2.val),(12,.int .i64 (y.1.1:Nat))],y.1.2.bl)) (fun y=> nc-y.1.1) ?_ ⟨(0,Gl.nil 3 1),Nat.zero_le _,rfl,rfl⟩);rintro⟨⟨i,g⟩,hi,hgn,hgl⟩ ih;simp only at hi hgn hgl;show Tc (Mp prog) St _ _ _ _ [(0,.slice C nc cc),(3,.slice X n xc),(9,.int .i64 (d:Nat)),(10,.int .i64 (m:Nat)),(11,g.val),(12,.int .i64 (i:Nat))] g.bl _ _;by_cases c3:i<nc
 · obtain h0|⟨ab,ao,f,gs,gt,gz,rfl,hb,hlc⟩:=hC
   · omega
   obtain⟨f1,f2⟩:=hlc i c3;have w1:IntKind.i64.wrap ((c0 i:Nat):Int)=((c0 i:Nat):Int):=wrap64 (by omega) (by omega);have r1:intBin .rem .i64 ((c0 i:Nat):Int) 100=some (.int .i64 (w i)):=by rw[rem_in (by omega) (by omega),hw];congr 2
   have hih:=fun(g':Gl 3 1) (h1:g'.n=i+1) (h2:g'.l=clL w (i+1))=> ih ⟨(i+1,g'),by simp only;omega,h1,h2⟩ (by simp only;omega);clear ih;refine U20 ?_;refine .e (.bs (zz:=fun bs=> ?_));refine .e (Or.append (E:=en) (g:=g) (m:=1) (new:= [.int .i64 (w i)]) (yv:=.slice (some ⟨bs,0,none⟩) 1 1) 1 rfl rfl rfl rfl rfl rfl rfl rfl rfl rfl rfl rfl rfl rfl rfl (fun H hs=> SrcAt.of (hs.get (i:=0) rfl) (Nat.le_of_ble_eq_true rfl)) rfl (by omega) rfl (by decide) (fun g2 hn2 hl2=> ?_));refine U8 ?_;exact Tc.db (hih g2 (by rw[hn2,hgn]) (by rw[hl2,hgl,clL_succ]))
 · have c4 : i=nc:=by omega
   clear ih;subst c4;clear c3 hi;refine U11 ?_;refine Tc.db (R':= [(3,.slice X n xc),(9,.int .i64 (d:Nat)),(10,.int .i64 (m:Nat)),(11,g.val)]) (L':=g.bl) ?_;refine Tc.absorb [] g.bl (List.Perm.refl _) (fun H₁ hle1 hb1=> ?_);have hA:=cl_at g hb1 hgl hgn;have hgv:g.val=.slice (g.blk.map fun b=> ⟨b,0,none⟩) i g.cap:=by unfold Gl.val;rw[hgn]
   rw[hgv];generalize (g.blk.map fun b=> (⟨b,0,none⟩:Addr))=A at hA;generalize g.cap=wc;clear hgv hb1 hgl hgn g hC;obtain⟨b1,t1,l1,n2,t2,l2,n3,t3,l3,hlaw,k1,k2,k3⟩:=cheap_use H₁ A i wc w hA hnc hw99 d m hd2 hm2;refine U4 ?_;refine To.callF rfl rfl rfl rfl rfl rfl (by decide) (FnT.h (k1 H₁ (View.le_refl _))) (fun v H₂ hv=> ?_);obtain⟨hle2,a1,c1',rfl,hS1,hcap1⟩:=hv;refine U14 ?_;refine To.callF rfl rfl rfl rfl rfl rfl (by decide) (FnT.h (k2 H₂ hle2)) (fun v H₃ hv=> ?_);obtain⟨hle3,a2,c2',rfl⟩:=hv;have hH3:=View.le_trans hle2 hle3;refine U14 ?_;refine To.callF rfl rfl rfl rfl rfl rfl (by decide) (FnT.h (k3 H₃ hH3)) (fun v H₄ hv=> ?_);obtain⟨hle4,a3,c3',rfl⟩:=hv;have hH4:=View.le_trans hH3 hle4;refine U12 ?_;refine To.callF rfl rfl rfl rfl rfl rfl (by decide) (FnT.h (Cheap_c (Mp prog) H₄ d m (by omega) (by omega))) (fun v H₅ hv=> ?_);obtain⟨hle5,G,gc,rfl,hG5⟩:=hv;have hH5:=View.le_trans hH4 hle5;refine U12 ?_;have hcl:=canTo_pos m (by omega) (by omega) d (by omega) (by omega);have hcn:=canTo_num m (by omega) d (by omega);generalize canTo m d=can at hlaw hG5 hcl hcn;have hX5:=hX.le (View.le_trans hle1 hH5);have hA5:=hA.le hH5;have hS5:=hS1.mono (View.le_trans hle3 (View.le_trans hle4 hle5));clear k1 k2 k3 hS1;refine Tc.db (Tc.loopInv (σ:= { y:Nat×Gl 9 1×List (List UInt8)//y.1≤i∧y.2.2.length≤y.1∧(y.2.1.n=y.2.2.length∧y.2.1.l=strsV y.2.2)∧okG can y.2.2 }) (fun y=> ([(3,.slice X n xc),(11,.slice A i wc),(13,.slice a1 b1.length c1'),(14,.int .i64 t1),(15,.int .i64 l1),(17,.int .i64 t2),(18,.int .i64 l2),(20,.int .i64 t3),(21,.int .i64 l3),(22,.slice G can.length gc),(23,y.1.2.1.val),(24,.int .i64 (y.1.1:Nat))],y.1.2.1.bl)) (fun y=> i-y.1.1) ?_ ⟨(0,Gl.nil 9 1,[]),Nat.zero_le _,Nat.le_refl _,⟨rfl,rfl⟩,fun j s h=> (nomatch h)⟩);rintro⟨⟨j,g,gv⟩,hj,hgj,⟨hgn,hgl⟩,hok⟩ ih;simp only at hj hgj hgn hgl hok;show Tc (Mp prog) St _ _ H₅ _ [(3,.slice X n xc),(11,.slice A i wc),(13,.slice a1 b1.length c1'),(14,.int .i64 t1),(15,.int .i64 l1),(17,.int .i64 t2),(18,.int .i64 l2),(20,.int .i64 t3),(21,.int .i64 l3),(22,.slice G can.length gc),(23,g.val),(24,.int .i64 (j:Nat))] g.bl _ _;by_cases d1:j<i
   · obtain⟨r,hr⟩:∃r:Nat,r=choiceOf n x j%can.length:=⟨_,rfl⟩
     have hrl:r<can.length:=by rw[hr];exact Nat.mod_lt _ (by omega)
     have hch:choiceOf n x j<65536:=by
       unfold choiceOf;split
       · rename_i hjn
         rcases hX5 with h0|⟨_,_,_,_,_,_,_,_,hl⟩
         · omega
         · exact(hl j hjn).2
       · decide
     have rr:intBin .rem .i64 ((choiceOf n x j:Nat):Int) ((can.length:Nat):Int)=some (.int .i64 ((r:Nat):Int)):=by rw[rem_in (by omega) (by omega),hr];congr 2
     obtain⟨xb,xo,xf,xs,xt,xz,y,rfl,hxb,hy,f4⟩:=strs_at hG5 hrl;have hcc:=fun(H':View) (h:H₅.le H')=> Choice_c (Mp prog) H' X n xc x (hX5.le h) j;have hym:=List.mem_of_getElem? hy;have hfr:∀H',(∀z∈g.bl,H' z.1=some z.2)→CallT (Mp prog) 56 #[g.val,strV y] H' (fun v H''=> H'.le H''∧v=.bool (!nearL gv y)):=fun H' h=> by
       have:=free_c (Mp prog) H' (g.blk.map fun b=> ⟨b,0,none⟩) g.cap gv (gl_strs g hgn hgl h) (by omega) (fun z hz=> num_len (hcn z (okG_mem hok hz))) y (num_len (hcn y hym)) (nearL gv y) rfl;rw[←hgn] at this;exact this
     cases hnr:nearL gv y with
     | true=>
       rw[hnr] at hfr;have hih:=ih ⟨(j+1,g,gv),by simp only;omega,by simp only;omega,⟨hgn,hgl⟩,hok⟩ (by simp only;omega);clear ih;refine U17 ?_;refine .c rfl rfl rfl rfl (fun H hs=> .h (hcc H hs.base)) ?_;refine U11 ?_;refine .c rfl rfl rfl rfl (fun H hs=> .h (hfr H (fun z hz=> hs.at_ z hz))) ?_;refine U9 ?_;exact Tc.db (hih)
     | false=>
       rw[hnr] at hfr;have hih:=fun(g':Gl 9 1) (h1:g'.n=(gv++[y]).length) (h2:g'.l=strsV (gv++[y]))=> ih ⟨(j+1,g',gv++[y]),by simp only;omega,by simp only[List.length_append,List.length_singleton];omega,⟨h1,h2⟩,okG_snoc hok hym hnr⟩ (by simp only;omega);clear ih;refine U17 ?_;refine .c rfl rfl rfl rfl (fun H hs=> .h (hcc H hs.base)) ?_;refine U11 ?_;refine .c rfl rfl rfl rfl (fun H hs=> .h (hfr H (fun z hz=> hs.at_ z hz))) ?_;refine U5 ?_;refine .e (.bs (zz:=fun bs=> ?_));refine .e (Or.append (E:=en) (g:=g) (m:=1) (new:= [strV y]) (yv:=.slice (some ⟨bs,0,none⟩) 1 1) 1 rfl rfl rfl rfl rfl rfl rfl rfl rfl rfl rfl rfl rfl rfl rfl (fun H hs=> SrcAt.of (hs.get (i:=0) rfl) (Nat.le_of_ble_eq_true rfl)) rfl (by omega) rfl (by decide) (fun g2 hn2 hl2=> ?_));refine U8 ?_;exact Tc.db (hih g2 (by rw[hn2,hgn,List.length_append];rfl) (by rw[hl2,hgl,strsV_app];rfl))
   · have d2 :j=i:=by omega
     clear ih;subst d2;clear d1 hj;refine U12 ?_;refine Tc.db (R':= [(11,.slice A j wc),(13,.slice a1 b1.length c1'),(14,.int .i64 t1),(15,.int .i64 l1),(17,.int .i64 t2),(18,.int .i64 l2),(20,.int .i64 t3),(21,.int .i64 l3),(22,.slice G can.length gc),(23,g.val)]) (L':=g.bl) ?_;refine Tc.absorb [] g.bl (List.Perm.refl _) (fun H₆ hle6 hb6=> ?_);have hgS:=gl_strs g hgn hgl hb6;have hgv2:g.val=.slice (g.blk.map fun b=> ⟨b,0,none⟩) gv.length g.cap:=by unfold Gl.val;rw[hgn]
     rw[hgv2];generalize (g.blk.map fun b=> (⟨b,0,none⟩:Addr))=A6 at hgS;generalize g.cap=gc6;clear hgv2 hb6 hgl hgn g;have hH6:=View.le_trans (View.le_trans hle1 hH5) hle6;have hA6:=hA5.le hle6;have hS6:=hS5.mono hle6;have hG6:=hG5.le hle6;rcases hlaw with ⟨rfl,hb0,rfl,hlw⟩|⟨rfl,rfl,rfl,hbl,hbo,rfl,h12,h13,hgiven⟩
     · have hb0':b1.length=0:=by rw[hb0];rfl
       have hlt:=hlw gv hok;clear hb0 hlw;refine U26 ?_;refine .c rfl rfl rfl rfl (fun H hs=> .h (hlives H (View.le_trans hH6 hs.base))) ?_;refine U3 ?_;exact hR _ _ _ _ rfl hH6
     · refine U41 ?_;refine Tc.db (Tc.loopInv (σ:= { z:Nat//z≤b1.length }) (fun z=> ([(11,.slice A j wc),(13,.slice a1 b1.length c1'),(14,.int .i64 (costL w b1)),(22,.slice G can.length gc),(23,.slice A6 gv.length gc6),(26,.int .i64 (z.1:Nat))],[])) (fun z=> b1.length-z.1) ?_ ⟨0,Nat.zero_le _⟩);rintro⟨z,hz⟩ ih;show Tc (Mp prog) St _ _ H₆ _ [(11,.slice A j wc),(13,.slice a1 b1.length c1'),(14,.int .i64 (costL w b1)),(22,.slice G can.length gc),(23,.slice A6 gv.length gc6),(26,.int .i64 (z:Nat))] [] _ _;by_cases e1:z<b1.length
       · have hih:=ih ⟨z+1,by omega⟩ (by simp only;omega);clear ih;obtain⟨yb,yo,yf,ys,yt,yz,y,rfl,hyb,hy,f4⟩:=strs_at (strs_src hS6 rfl) e1;obtain⟨hym,hyn⟩:=hbo z y hy;obtain⟨u,hu⟩:∃u:Nat,firstTo (fun j=> can[j]?.getD []==y) can.length=some u:=by
           cases q:firstTo (fun j=> can[j]?.getD []==y) can.length with
           | some u=> exact⟨u,rfl⟩
           | none=>
             obtain⟨k,hk,hk2⟩:=List.getElem_of_mem hym;have:=(firstTo_none _).1 q k hk;rw[List.getElem?_eq_getElem hk,hk2] at this;simp at this
         have hix:=fun(H':View) (h:H₆.le H')=> isV (IndexOf_c (Mp prog) H' G can.length gc (fun j=> can[j]?.getD []) (hG6.le h) (by omega) y) (w':=.int .i64 ((u:Nat):Int)) (by rw[hu];rfl);have hs1:=src_part hS6 hcap1 (l:=0) (m:=(z:Nat)) (by omega) (by omega) (by omega);rw[strsV_cut] at hs1;have hfz:∀(Gz:Option Addr) (nz cz:Nat),SrcAt H₆ 1 (.slice Gz nz cz) nz (strsV (b1.take z))→∀H',H₆.le H'→CallT (Mp prog) 56 #[.slice Gz nz cz,strV y] H' (fun v H''=> H'.le H''∧v=.bool true):=by
           intro Gz nz cz h H' hle;have hln:nz=(b1.take z).length:=by
             have h1:=h.2.1;rw[strsV_len] at h1;omega
           subst hln;exact free_c (Mp prog) H' Gz cz (b1.take z) ((strs_src h rfl).le hle) (by rw[List.length_take];omega) (fun q hq=> num_len (hcn q (okG_mem hbo (List.mem_of_mem_take hq)))) y (num_len (hcn y hym)) false hyn
         have hfz2:=hfz _ _ _ hs1;clear hfz hs1;refine U13 ?_;refine Tc.dr [] [] mixed rfl ?_;refine .nn 0 ?_;refine .nn 1 ?_;refine .nn 2 ?_;refine .nn 3 ?_;refine .nn 4 ?_;refine .z 5 rfl (OpV.takeCall rfl rfl rfl rfl (fun H hs=> .h (hix H hs.base))) ?_;refine .nn 6 ?_;refine .nn 7 ?_;refine .nn 8 ?_;refine .nn 9 ?_;refine .q 10 rfl (OpV.sliceF (E:=en) rfl rfl rfl rfl rfl rfl rfl (by omega) (by omega) (by omega)) ?_;refine .nn 11 ?_;refine .nn 12 ?_;refine .nn 13 ?_;refine .nn 14 ?_;refine .z 15 rfl (OpV.takeCall rfl rfl rfl rfl (fun H hs=> .h (hfz2 H hs.base))) ?_;refine .nn 16 ?_;refine .nn 17 ?_;refine .dn ?_;refine U8 ?_;exact Tc.db (hih)
       · have e2:z=b1.length:=by omega
         clear ih;have hco1:=fun(H':View) (h:H₆.le H')=> costs_c (Mp prog) H' A j wc w (hA6.le h) hw99 a1 c1' b1 ((strs_src hS6 rfl).le h) (by omega) (by omega) (fun s hs=> hcn s (okG_mem hbo hs));have hco2:=fun(H':View) (h:H₆.le H')=> costs_c (Mp prog) H' A j wc w (hA6.le h) hw99 A6 gc6 gv (hgS.le h) (by omega) (by omega) (fun s hs=> hcn s (okG_mem hok hs));have hgl:=hgiven gv hok;clear hgiven;generalize costL w b1=z1 at hco1 hgl;generalize costL w gv=z2 at hco2 hgl;by_cases e3:gv.length<j
         · refine U14 ?_;refine .c rfl rfl rfl rfl (fun H hs=> .h (hco1 H hs.base)) ?_;refine U10 ?_;refine .c rfl rfl rfl rfl (fun H hs=> .h (hco2 H hs.base)) ?_;refine U30 ?_;refine .c rfl rfl rfl rfl (fun H hs=> .h (hlives H (View.le_trans hH6 hs.base))) ?_;refine U3 ?_;exact hR _ _ _ _ rfl hH6
         · have hgl2:=hgl (by omega);refine U14 ?_;refine .c rfl rfl rfl rfl (fun H hs=> .h (hco1 H hs.base)) ?_;refine U10 ?_;refine .c rfl rfl rfl rfl (fun H hs=> .h (hco2 H hs.base)) ?_;refine U30 ?_;refine .c rfl rfl rfl rfl (fun H hs=> .h (hlives H (View.le_trans hH6 hs.base))) ?_;refine U3 ?_;exact hR _ _ _ _ rfl hH6
end
end Go.Proofs.YtdnfdeplcjaonaaGreatDoor
namespace Go.Proofs.YtdnfdeplcjaonaaGreatDoor
open Go.RL Go.Proofs.Tryz Go.ChangeShapes Go.WideShapes Go.ChangeAt Go.RowKit
set_option maxRecDepth 100000
section
variable {H:Type}{enc:TypeId×Value→H}{W:World}
theorem wf_u8 {n:Int}(h:(Lit.int .u8 n).wf=true):0≤n∧n≤255:=by
 have e1:IntKind.u8.min=0:=by kernel_rfl
 have e2:IntKind.u8.max=255:=by kernel_rfl
 simp only[Lit.wf,Bool.and_eq_true,decide_eq_true_eq,e1,e2] at h;omega
theorem trod_bytes {n:Nat}{cs:List Value}{y:DataW H×List MemPlace}(h:DataW.trod enc prog W 0 (fun _=> true) true n 80 cs=some y):
   ∃(F:Option Addr) (m fc:Nat) (x:Nat→Nat),cs= [.slice F m fc]∧BytesAt (fullV W) F m x:=by
 rcases open_ints (by kernel_rfl:prog.underlying 80=some (.slice 5)) (by kernel_rfl:prog.underlying 5=some (.int .u8)) (by kernel_rfl:prog.cellsOf 5=1) h with ⟨h1,_⟩|⟨a',len,cap,zs,h1,_,h3,h4,h5,_,h7,h8⟩
 · exact⟨none,0,0,fun _=> 0,h1,.inl rfl⟩
 · simp only[if_true] at h5;refine⟨some a',len,cap,fun j=> (zs.getD j 0).toNat,h1,?_⟩;cases len with
   | zero=> exact .inl rfl
   | succ m=>
     obtain⟨ab,ao,spt⟩:=a';have h0:=h7 0 (by omega);have hsp:spt=none:=by simpa [Addr.add] using World.cell?_spot h0
     subst hsp;obtain⟨cs',gt,gz,e1,_⟩:=cells_of h0;have e1':W.heap[ab]? =some (.cells cs' gt gz):=by simpa [Addr.add] using e1
     refine .inr ⟨ab,ao,false,cs'.toList,gt,gz,rfl,by simp only[fullV,e1',Option.map_some],fun j hj=> ?_⟩;have hw:0≤zs.getD j 0∧zs.getD j 0≤255:=by
       rw[List.getD_eq_getElem?_getD,List.getElem?_eq_getElem (by omega),Option.getD_some];exact wf_u8 (h8 _ (List.getElem_mem _))
     have h9:=h7 j (by omega);rw[add_at] at h9;obtain⟨cs2,gt',gz',e2,e3⟩:=cells_of h9;rw[e1'] at e2;cases e2
     refine⟨?_,by show(zs.getD j 0).toNat<256;omega⟩;show cs'.toList[ao+(j:Int).toNat*1]? =some (.int .u8 (((zs.getD j 0).toNat:Nat):Int));rw[Int.toNat_natCast,Nat.mul_one,Array.getElem?_toList,e3,Int.toNat_of_nonneg hw.1]
theorem open_bytes {base:Nat}{v:Value}(hv:Value.okWide prog W .any base 80 v)(h:∃d q,DataW.Trod enc prog W 0 (fun _=> true) true 80 v d q):
   ∃(F:Option Addr) (m fc:Nat) (x:Nat→Nat),v=.slice F m fc∧BytesAt (fullV W) F m x:=by
 have hv':∃F m fc,v=.slice F m fc:=by
   unfold Value.okWide Cell.okWide Cell.ok at hv;rw[show prog.underlying 80=some (.slice 5) by kernel_rfl] at hv;cases v with
   | slice a b c=> exact⟨a,b,c,rfl⟩
   | _=> exact hv.elim
 obtain⟨F0,m0,c0,rfl⟩:=hv';obtain⟨d,q,n,h⟩:=h;obtain⟨F,m,fc,x,hx,h1⟩:=trod_bytes h;have hcs:(Value.slice F0 m0 c0).cells.toList= [.slice F0 m0 c0]:=rfl;rw[hcs] at hx;exact⟨F,m,fc,x,(List.cons.inj hx).1,h1⟩
end
end Go.Proofs.YtdnfdeplcjaonaaGreatDoor
