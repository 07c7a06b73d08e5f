/-
  Texts of the proofs over baudot/dial: OD OE DrawU OF ZN PA PB PC ZO OG.
-/
import Derived.Test.YtdnfdeplcjaonaaGreatDoorH08
namespace Go.Proofs.YtdnfdeplcjaonaaGreatDoor
open Go.RL Go.Proofs.Tryz
set_option maxRecDepth 10000
set_option maxHeartbeats 8000000
def Wl:Type:= { x:Gl 33 1×Bl//((x.1.bl++x.2).map (·.1)).Nodup }
def Wl.val(s:Wl):Value:=s.1.1.val
def Wl.bl(s:Wl):Bl:=s.1.1.bl++s.1.2
theorem Wl.nodup(s:Wl):(s.bl.map (·.1)).Nodup:=s.2
def HasL(X:Bl)(vs:List Value)(LL:List (List (List UInt8))):Prop:=
 vs.length=LL.length∧∀(j:Nat) t,LL[j]? =some t→∃g:Gl 9 1,vs[j]? =some g.val∧(g.n=t.length∧g.l=strsV t)∧∀y∈g.bl,y∈X
theorem HasL.mono {X Y:Bl}{vs:List Value}{LL:List (List (List UInt8))}(h:HasL X vs LL)(hs:∀y∈X,y∈Y):HasL Y vs LL:=
 ⟨h.1,fun j t hj=> by
   obtain⟨g,h1,h2,h3⟩:=h.2 j t hj;exact⟨g,h1,h2,fun y hy=> hs y (h3 y hy)⟩⟩
theorem HasL.app {X Y:Bl}{vs us:List Value}{LL KK:List (List (List UInt8))}(h:HasL X vs LL)(k:HasL Y us KK):HasL (X++Y) (vs++us) (LL++KK):=
 ⟨by rw[List.length_append,List.length_append,h.1,k.1],fun j t hj=> by
   by_cases c:j<LL.length
   · rw[List.getElem?_append_left c] at hj;obtain⟨g,h1,h2,h3⟩:=h.2 j t hj;exact⟨g,by rw[List.getElem?_append_left (by rw[h.1];exact c)];exact h1,h2,fun y hy=> List.mem_append_left _ (h3 y hy)⟩
   · rw[List.getElem?_append_right (by omega)] at hj;obtain⟨g,h1,h2,h3⟩:=k.2 _ t hj;exact⟨g,by rw[List.getElem?_append_right (by rw[h.1];omega),h.1];exact h1,h2,fun y hy=> List.mem_append_right _ (h3 y hy)⟩⟩
theorem HasL.single {X:Bl}{vs:List Value}{LL:List (List (List UInt8))}(h:HasL X vs LL):vs.all single=true:=by
 refine List.all_eq_true.2 fun x hx=> ?_;obtain⟨j,hj,rfl⟩:=List.getElem_of_mem hx;have hj2:j<LL.length:=by rw[←h.1];exact hj
 obtain⟨g,h1,_⟩:=h.2 j LL[j] (List.getElem?_eq_getElem hj2);rw[List.getElem?_eq_getElem hj] at h1;rw[Option.some.inj h1];rfl
theorem words_len {can:List (List UInt8)}(hc:can.length≤40):∀(d:Nat) (l:List (List UInt8)),(wordsL can d l).length≤40 ^ d
 | 0,_=> Nat.le_refl _
 | d + 1,l=> by
   have h1:=flat_le (f:=fun s=> if nearL l s then [] else wordsL can d (l++[s])) (K:=40 ^ d) (fun s=> by
     split
     · exact Nat.zero_le _
     · exact words_len hc d _) can
   rw[Nat.pow_succ,Nat.mul_comm];exact Nat.le_trans h1 (Nat.mul_le_mul_right _ hc)
def wordsB(can:List (List UInt8))(d:Nat)(l:List (List UInt8))(i:Nat):List (List (List UInt8)):=(can.take i).flatMap fun s=> if nearL l s then [] else wordsL can d (l++[s])
theorem wordsB_all(can:List (List UInt8))(d:Nat)(l:List (List UInt8)):wordsB can d l can.length=wordsL can (d+1) l:=by
 unfold wordsB;rw[List.take_length];rfl
theorem wordsB_succ {can:List (List UInt8)}{d:Nat}{l:List (List UInt8)}{i:Nat}{s:List UInt8}(h:can[i]? =some s):wordsB can d l (i+1)=wordsB can d l i++if nearL l s then [] else wordsL can d (l++[s]):=by
 unfold wordsB;rw[List.take_add_one,h,List.flatMap_append];simp
theorem wordsB_len {can:List (List UInt8)}(hc:can.length≤40){d:Nat}(hd:d≤2)(l:List (List UInt8))(i:Nat):(wordsB can d l i).length≤64000:=by
 have h1:=flat_le (f:=fun s=> if nearL l s then [] else wordsL can d (l++[s])) (K:=40 ^ d) (fun s=> by
   split
   · exact Nat.zero_le _
   · exact words_len hc d _) (can.take i)
 have h2:(can.take i).length≤40:=by rw[List.length_take];omega
 have h3:40 ^ d≤1600:=by rcases(by omega:d=0∨d=1∨d=2) with rfl|rfl|rfl <;> decide
 unfold wordsB;have h4:(can.take i).length*40 ^ d≤40*1600:=Nat.mul_le_mul h2 h3;omega
theorem in_three(X Y Z:Bl):∀B:Bl,(((B++X)++Y)++Z).Perm (((X++Y)++Z)++B):=fun B=> by
 have h:((B++X)++Y)++Z=B++((X++Y)++Z):=by simp
 rw[h];exact List.perm_append_comm
theorem gl_strs {H:View}(g:Gl 9 1){l:List (List UInt8)}(hn:g.n=l.length)(hl:g.l=strsV l)(h:∀y∈g.bl,H y.1=some y.2):StrsAt H (g.blk.map fun b=> ⟨b,0,none⟩) l.length (fun j=> l[j]?.getD []):=by
 have h1:=g.src (H:=H) h;rw[hl] at h1;unfold Gl.val at h1;rw[hn] at h1;exact strs_src h1 rfl
section
variable(M:Md prog)
theorem words_n(A:Option Addr)(ac:Nat)(can:List (List UInt8))(hc:can.length≤40)(n:Nat)(hn3:n≤3):∀(d:Nat) (l:List (List UInt8)) (_:l.length+d=n) (g0:Gl 9 1) (_:g0.n=l.length∧g0.l=strsV l) (H:View) (_:StrsAt H A can.length (fun j=> can[j]?.getD [])) (_:∀y∈g0.bl,H y.1=some y.2),
   CallT M 146 #[.slice A can.length ac,g0.val,.int .i64 (n:Nat)] H (fun v H'=> H.le H'∧∃s:Wl,v=s.val∧(s.1.1.n=(wordsL can d l).length∧HasL (g0.bl++s.1.2) s.1.1.l (wordsL can d l))∧∀y∈s.bl,H' y.1=some y.2∧H y.1=none)
 | 0,l,hd,g0,hg,H,hA,h0=> by
   obtain⟨hg1,hg2⟩:=hg;refine .en func146 ntmps146 fun St c cs hK=> ?_;refine U16 ?_;refine .e (.bs (zz:=fun bs=> ?_));refine U2 ?_;refine .rt hK func146 results146 [_] ?_;refine fun H' hs=> ⟨hs.base,⟨(⟨some bs,1,1,[g0.val],[],rfl,Nat.le_refl _,rfl,fun h=> (nomatch h)⟩,[]),by simp[Gl.bl]⟩,rfl,⟨rfl,rfl,fun j t hj=> ?_⟩,fun y hy=> ?_⟩
   · have h1:([l]:List (List (List UInt8)))[j]? =some t:=hj;cases j with
     | zero=>
       cases h1
       exact⟨g0,rfl,⟨hg1,hg2⟩,fun y hy=> List.mem_append_left _ hy⟩
     | succ j=> cases h1
   · have h1:y=(bs,true,.cells ⟨[g0.val]⟩ 33 (0,0)):=List.mem_singleton.1 hy;rw[h1];exact⟨hs.get (i:=0) rfl,hs.fresh (i:=0) (blk:=bs) (x:=(true,.cells ⟨[g0.val]⟩ 33 (0,0))) rfl⟩
 | d + 1, l, hd,g0,hg,H,hA,h0=> by
   have IH:=words_n A ac can hc n hn3 d;obtain⟨hg1,hg2⟩:=hg;have hSt:=gl_strs g0 hg1 hg2 h0;have hap:∀H',H.le H'→∀s,CallT M 194 #[g0.val,strV s] H' (fun v H''=> H'.le H''∧v=.bool (!nearL l s)):=fun H' h s=> by
     have:=apart_c M H' (g0.blk.map fun b=> ⟨b,0,none⟩) g0.cap l (hSt.le h) (by omega) s (nearL l s) rfl;rw[←hg1] at this;exact this
   have hs0:∀H',H.le H'→SrcAt H' 1 g0.val l.length (strsV l):=fun H' h=> by
     have h1:=(g0.src (H:=H) h0).mono h;rw[hg2,hg1] at h1;exact h1
   refine .en func146 ntmps146 fun St c cs hK=> ?_;refine U24 ?_;refine Tc.db (Tc.loopInv (σ:= { x:Nat×Gl 33 1×Bl//x.1≤can.length∧x.2.1.n=(wordsB can d l x.1).length∧HasL x.2.2 x.2.1.l (wordsB can d l x.1) }) (fun x=> ([(0,.slice A can.length ac),(1,g0.val),(2,.int .i64 (n:Nat)),(7,x.1.2.1.val),(8,.int .i64 (x.1.1:Nat))],x.1.2.1.bl++x.1.2.2)) (fun x=> can.length-x.1.1) ?_ ⟨(0,Gl.nil 33 1,[]),Nat.zero_le _,rfl,rfl,fun j t hj=> (nomatch hj)⟩);rintro⟨⟨i,gA,inner⟩,hi,hgn,hgl⟩ ih;simp only at hi hgn hgl;show Tc M St _ _ _ _ [(0,.slice A can.length ac),(1,g0.val),(2,.int .i64 (n:Nat)),(7,gA.val),(8,.int .i64 (i:Nat))] (gA.bl++inner) _ _;by_cases c1:i=can.length
   · clear ih;subst c1;rw[wordsB_all] at hgn hgl;refine U15 ?_;refine .rt hK func146 results146 [_] ?_;exact fun H' hs=> ⟨hs.base,⟨(gA,inner),hs.nodup⟩,rfl,⟨hgn,hgl.mono fun y hy=> List.mem_append_right _ hy⟩,fun y hy=> ⟨hs.at_ y hy,hs.out y hy⟩⟩
   · have c2 :i<can.length:=by omega
     obtain⟨xb,xo,xf,xs,xt,xz,y,rfl,hxb,hy,f4⟩:=strs_at hA c2;have hsu:=wordsB_succ (d:=d) (l:=l) hy;have hlen:=wordsB_len hc (d:=d) (by omega) l i;cases hnr:nearL l y with
     | true=>
       rw[hnr,if_pos rfl,List.append_nil] at hsu;have hih:=ih ⟨(i+1,gA,inner),by simp only;omega,by simp only;rw[hsu];exact hgn,by simp only;rw[hsu];exact hgl⟩ (by simp only;omega);clear ih;have hap2:=fun(H':View) (h:H.le H')=> hap H' h y;rw[hnr] at hap2;refine U19 ?_;refine .c rfl rfl rfl rfl (fun H hs=> .h (hap2 H hs.base)) ?_;refine U9 ?_;exact Tc.db (hih)
     | false =>
       rw[hnr,if_neg (by decide)] at hsu;have hlen2:(wordsL can d (l++[y])).length≤1600:=Nat.le_trans (words_len hc d _) (by rcases(by omega:d=0∨d=1∨d=2) with rfl|rfl|rfl <;> decide);have hih:=fun(gB:Gl 33 1) (inner':Bl) (h1:gB.n=(wordsB can d l (i+1)).length) (h2:HasL inner' gB.l (wordsB can d l (i+1)))=> ih ⟨(i+1,gB,inner'),by simp only;omega,h1,h2⟩ (by simp only;omega);clear ih;have hap2:=fun(H':View) (h:H.le H')=> hap H' h y;rw[hnr] at hap2;refine U19 ?_;refine .c rfl rfl rfl rfl (fun H hs=> .h (hap2 H hs.base)) ?_;refine U2 ?_;refine Tc.via (fun R' L'=> ∃(gB:Gl 33 1) (inner':Bl),(gB.n=(wordsB can d l (i+1)).length∧HasL inner' gB.l (wordsB can d l (i+1)))∧AllIn [(0,.slice (some ⟨xb,xo,none⟩) can.length ac),(1,g0.val),(2,.int .i64 (n:Nat)),(7,gB.val),(8,.int .i64 (i:Nat))] R'∧List.Sublist (gB.bl++inner') L') ?_ (fun fin=> ?_)
       · rintro R' L' ⟨gB,inner',⟨h1,h2⟩,hR',hL'⟩;refine Tc.dropB ?_ hR' hL';have hih2:=hih gB inner' h1 h2;clear hih;refine U6 ?_;exact Tc.db (hih2)
       · clear hih;refine Tc.drT [4,10,13] [] [] 0 mixed rfl ?_;refine .ow 0 ?_;refine .ow 1 ?_;refine .oo 3 ?_;refine .ow 5 ?_;refine .ow 6 ?_;refine .ow 7 ?_;refine .ow 8 ?_;refine .ow 11 ?_;refine Ta.each [2,9] (by kernel_rfl) rfl ⟨TaOp.mk rfl rfl rfl (.bs (zz:=fun bs0=> ⟨S3.mk (by exact List.nil_sublist _) (.inr (by apply List.Sublist.cons;exact List.Sublist.refl _)),?_⟩)),TaOp.mk rfl rfl rfl (.bs (zz:=fun bs1=> ⟨S3.mk (by exact List.nil_sublist _) (.inr (by apply List.Sublist.cons;exact List.Sublist.refl _)),?_⟩)),trivial⟩
         · refine Ta.each [4,9] (by kernel_rfl) rfl ⟨TaOp.mk rfl rfl rfl (Or.appendEnd (E:=en) (g:=Gl.emp 9 1 bs0) (m:=l.length) (new:=strsV l) (yv:=g0.val) 0 (gA.bl++inner) rfl rfl rfl rfl rfl rfl rfl rfl rfl rfl rfl rfl rfl rfl rfl (fun H' hs=> hs0 H' hs.base) (strsV_single _) (by show 0+_≤_;omega) rfl (by decide) (fun g1 hn1 hl1=> ⟨S3.mk (by exact List.nil_sublist _) (.inl (by kernel_rfl)),?_⟩)),TaOp.mk rfl rfl rfl (.bs (zz:=fun bs1=> ⟨S3.mk (by exact List.nil_sublist _) (.inr (by apply List.Sublist.cons;apply List.Sublist.cons;exact List.Sublist.refl _)),?_⟩)),trivial⟩
           · refine Ta.each [9] (by kernel_rfl) rfl ⟨TaOp.mk rfl rfl rfl (.bs (zz:=fun bs1=> ⟨S3.mk (by exact List.nil_sublist _) (.inl (by kernel_rfl)),?_⟩)),trivial⟩;refine Ta.each [10] (by kernel_rfl) rfl ⟨TaOp.mk rfl rfl rfl (Or.appendAmid (E:=en) (g:=g1) (m:=1) (new:= [strV y]) (yv:=.slice (some ⟨bs1,0,none⟩) 1 1) 1 (fun Bb=> (gA.bl++inner)++Bb) (fun _=> List.Perm.refl _) rfl rfl rfl rfl rfl rfl rfl rfl rfl rfl rfl rfl rfl rfl rfl (fun H hs=> SrcAt.of (hs.get (i:=0) rfl) (Nat.le_of_ble_eq_true rfl)) rfl (by rw[hn1];show 0+_+1≤_;omega) rfl (by decide) (fun g2 hn2 hl2=> ⟨S3.mk (by exact List.nil_sublist _) (.inl (by kernel_rfl)),?_⟩)),trivial⟩;refine Ta.each [12] (by kernel_rfl) rfl ⟨TaOp.mk rfl rfl rfl (Or.callNew Wl.val Wl.bl (fun s=> s.1.1.n=(wordsL can d (l++[y])).length∧HasL (g2.bl++s.1.2) s.1.1.l (wordsL can d (l++[y]))) rfl rfl rfl rfl rfl (by decide) Wl.nodup (fun H' hs=> .h (IH (l++[y]) (by rw[List.length_append];show l.length+1+d=n;omega) g2 ⟨by rw[hn2,hn1,List.length_append];show 0+_+1=_+1;omega,by rw[hl2,hl1,strsV_app];rfl⟩ H' (hA.le hs.base) (fun z hz=> hs.at_ z (show z∈(bs1,true,.cells ⟨[strV y]⟩ 9 (0,0))::((gA.bl++inner)++g2.bl) from List.mem_cons_of_mem _ (List.mem_append_right _ hz))))) (fun g3 hg3=> ⟨S3.mk (by exact List.nil_sublist _) (.inl (by kernel_rfl)),?_⟩)),trivial⟩;refine Ta.each [13] (by kernel_rfl) rfl ⟨TaOp.mk rfl rfl rfl (Or.appendAmid (E:=en) (g:=gA) (m:=g3.1.1.n) (new:=g3.1.1.l) (yv:=g3.1.1.val) 1 (fun Bb=> ((Bb++inner)++g2.bl)++g3.bl) (in_three _ _ _) rfl rfl rfl rfl rfl rfl rfl rfl rfl rfl rfl rfl rfl rfl rfl (fun H' hs=> g3.1.1.src fun z hz=> hs.at_ z (show z∈((bs1,true,.cells ⟨[strV y]⟩ 9 (0,0))::((gA.bl++inner)++g2.bl))++(g3.1.1.bl++g3.1.2) from List.mem_append_right _ (List.mem_append_left _ hz))) hg3.2.single (by rw[hgn,hg3.1];omega) rfl (by decide) (fun gB hnB hlB=> ⟨S3.mk (by exact List.nil_sublist _) (.inl (by kernel_rfl)),?_⟩)),trivial⟩;refine .ow 14 ?_;refine .dn ?_;exact fin _ _ ⟨gB,inner++(g2.bl++g3.bl),⟨by rw[hnB,hsu,List.length_append,hgn,hg3.1],by rw[hlB,hsu];exact hgl.app (hg3.2.mono fun z hz=> by rcases List.mem_append.1 hz with hz|hz;exact List.mem_append_left _ hz;exact List.mem_append_right _ (List.mem_append_right _ hz))⟩,⟨rfl,rfl,rfl,rfl,rfl,trivial⟩,by refine List.Sublist.cons _ ?_;simp only[List.append_assoc];exact List.Sublist.refl _⟩
           · refine Ta.each [4] (by kernel_rfl) rfl ⟨TaOp.mk rfl rfl rfl (Or.appendEnd (E:=en) (g:=Gl.emp 9 1 bs0) (m:=l.length) (new:=strsV l) (yv:=g0.val) 1 (gA.bl++inner) rfl rfl rfl rfl rfl rfl rfl rfl rfl rfl rfl rfl rfl rfl rfl (fun H' hs=> hs0 H' hs.base) (strsV_single _) (by show 0+_≤_;omega) rfl (by decide) (fun g1 hn1 hl1=> ⟨S3.mk (by exact List.nil_sublist _) (.inl (by kernel_rfl)),?_⟩)),trivial⟩;refine Ta.each [10] (by kernel_rfl) rfl ⟨TaOp.mk rfl rfl rfl (Or.appendAmid (E:=en) (g:=g1) (m:=1) (new:= [strV y]) (yv:=.slice (some ⟨bs1,0,none⟩) 1 1) 1 (fun Bb=> (gA.bl++inner)++Bb) (fun _=> List.Perm.refl _) rfl rfl rfl rfl rfl rfl rfl rfl rfl rfl rfl rfl rfl rfl rfl (fun H hs=> SrcAt.of (hs.get (i:=0) rfl) (Nat.le_of_ble_eq_true rfl)) rfl (by rw[hn1];show 0+_+1≤_;omega) rfl (by decide) (fun g2 hn2 hl2=> ⟨S3.mk (by exact List.nil_sublist _) (.inl (by kernel_rfl)),?_⟩)),trivial⟩;refine Ta.each [12] (by kernel_rfl) rfl ⟨TaOp.mk rfl rfl rfl (Or.callNew Wl.val Wl.bl (fun s=> s.1.1.n=(wordsL can d (l++[y])).length∧HasL (g2.bl++s.1.2) s.1.1.l (wordsL can d (l++[y]))) rfl rfl rfl rfl rfl (by decide) Wl.nodup (fun H' hs=> .h (IH (l++[y]) (by rw[List.length_append];show l.length+1+d=n;omega) g2 ⟨by rw[hn2,hn1,List.length_append];show 0+_+1=_+1;omega,by rw[hl2,hl1,strsV_app];rfl⟩ H' (hA.le hs.base) (fun z hz=> hs.at_ z (show z∈(bs1,true,.cells ⟨[strV y]⟩ 9 (0,0))::((gA.bl++inner)++g2.bl) from List.mem_cons_of_mem _ (List.mem_append_right _ hz))))) (fun g3 hg3=> ⟨S3.mk (by exact List.nil_sublist _) (.inl (by kernel_rfl)),?_⟩)),trivial⟩;refine Ta.each [13] (by kernel_rfl) rfl ⟨TaOp.mk rfl rfl rfl (Or.appendAmid (E:=en) (g:=gA) (m:=g3.1.1.n) (new:=g3.1.1.l) (yv:=g3.1.1.val) 1 (fun Bb=> ((Bb++inner)++g2.bl)++g3.bl) (in_three _ _ _) rfl rfl rfl rfl rfl rfl rfl rfl rfl rfl rfl rfl rfl rfl rfl (fun H' hs=> g3.1.1.src fun z hz=> hs.at_ z (show z∈((bs1,true,.cells ⟨[strV y]⟩ 9 (0,0))::((gA.bl++inner)++g2.bl))++(g3.1.1.bl++g3.1.2) from List.mem_append_right _ (List.mem_append_left _ hz))) hg3.2.single (by rw[hgn,hg3.1];omega) rfl (by decide) (fun gB hnB hlB=> ⟨S3.mk (by exact List.nil_sublist _) (.inl (by kernel_rfl)),?_⟩)),trivial⟩;refine .ow 14 ?_;refine .dn ?_;exact fin _ _ ⟨gB,inner++(g2.bl++g3.bl),⟨by rw[hnB,hsu,List.length_append,hgn,hg3.1],by rw[hlB,hsu];exact hgl.app (hg3.2.mono fun z hz=> by rcases List.mem_append.1 hz with hz|hz;exact List.mem_append_left _ hz;exact List.mem_append_right _ (List.mem_append_right _ hz))⟩,⟨rfl,rfl,rfl,rfl,rfl,trivial⟩,by refine List.Sublist.cons _ ?_;simp only[List.append_assoc];exact List.Sublist.refl _⟩
         · refine Ta.each [2] (by kernel_rfl) rfl ⟨TaOp.mk rfl rfl rfl (.bs (zz:=fun bs0=> ⟨S3.mk (by exact List.nil_sublist _) (.inr (by apply List.Sublist.cons;apply List.Sublist.cons;exact List.Sublist.refl _)),?_⟩)),trivial⟩;refine Ta.each [4] (by kernel_rfl) rfl ⟨TaOp.mk rfl rfl rfl (Or.appendEnd (E:=en) (g:=Gl.emp 9 1 bs0) (m:=l.length) (new:=strsV l) (yv:=g0.val) 0 ((bs1,true,.cells ⟨[strV y]⟩ 9 (0,0))::(gA.bl++inner)) rfl rfl rfl rfl rfl rfl rfl rfl rfl rfl rfl rfl rfl rfl rfl (fun H' hs=> hs0 H' hs.base) (strsV_single _) (by show 0+_≤_;omega) rfl (by decide) (fun g1 hn1 hl1=> ⟨S3.mk (by exact List.nil_sublist _) (.inl (by kernel_rfl)),?_⟩)),trivial⟩;refine Ta.each [10] (by kernel_rfl) rfl ⟨TaOp.mk rfl rfl rfl (Or.appendAmid (E:=en) (g:=g1) (m:=1) (new:= [strV y]) (yv:=.slice (some ⟨bs1,0,none⟩) 1 1) 1 (fun Bb=> (gA.bl++inner)++Bb) (fun _=> List.Perm.refl _) rfl rfl rfl rfl rfl rfl rfl rfl rfl rfl rfl rfl rfl rfl rfl (fun H hs=> SrcAt.of (hs.get (i:=0) rfl) (Nat.le_of_ble_eq_true rfl)) rfl (by rw[hn1];show 0+_+1≤_;omega) rfl (by decide) (fun g2 hn2 hl2=> ⟨S3.mk (by exact List.nil_sublist _) (.inl (by kernel_rfl)),?_⟩)),trivial⟩;refine Ta.each [12] (by kernel_rfl) rfl ⟨TaOp.mk rfl rfl rfl (Or.callNew Wl.val Wl.bl (fun s=> s.1.1.n=(wordsL can d (l++[y])).length∧HasL (g2.bl++s.1.2) s.1.1.l (wordsL can d (l++[y]))) rfl rfl rfl rfl rfl (by decide) Wl.nodup (fun H' hs=> .h (IH (l++[y]) (by rw[List.length_append];show l.length+1+d=n;omega) g2 ⟨by rw[hn2,hn1,List.length_append];show 0+_+1=_+1;omega,by rw[hl2,hl1,strsV_app];rfl⟩ H' (hA.le hs.base) (fun z hz=> hs.at_ z (show z∈(bs1,true,.cells ⟨[strV y]⟩ 9 (0,0))::((gA.bl++inner)++g2.bl) from List.mem_cons_of_mem _ (List.mem_append_right _ hz))))) (fun g3 hg3=> ⟨S3.mk (by exact List.nil_sublist _) (.inl (by kernel_rfl)),?_⟩)),trivial⟩;refine Ta.each [13] (by kernel_rfl) rfl ⟨TaOp.mk rfl rfl rfl (Or.appendAmid (E:=en) (g:=gA) (m:=g3.1.1.n) (new:=g3.1.1.l) (yv:=g3.1.1.val) 1 (fun Bb=> ((Bb++inner)++g2.bl)++g3.bl) (in_three _ _ _) rfl rfl rfl rfl rfl rfl rfl rfl rfl rfl rfl rfl rfl rfl rfl (fun H' hs=> g3.1.1.src fun z hz=> hs.at_ z (show z∈((bs1,true,.cells ⟨[strV y]⟩ 9 (0,0))::((gA.bl++inner)++g2.bl))++(g3.1.1.bl++g3.1.2) from List.mem_append_right _ (List.mem_append_left _ hz))) hg3.2.single (by rw[hgn,hg3.1];omega) rfl (by decide) (fun gB hnB hlB=> ⟨S3.mk (by exact List.nil_sublist _) (.inl (by kernel_rfl)),?_⟩)),trivial⟩;refine .ow 14 ?_;refine .dn ?_;exact fin _ _ ⟨gB,inner++(g2.bl++g3.bl),⟨by rw[hnB,hsu,List.length_append,hgn,hg3.1],by rw[hlB,hsu];exact hgl.app (hg3.2.mono fun z hz=> by rcases List.mem_append.1 hz with hz|hz;exact List.mem_append_left _ hz;exact List.mem_append_right _ (List.mem_append_right _ hz))⟩,⟨rfl,rfl,rfl,rfl,rfl,trivial⟩,by refine List.Sublist.cons _ ?_;simp only[List.append_assoc];exact List.Sublist.refl _⟩
end
theorem flat_strs(l:List (List UInt8)):flatR l.length (fun i=> [strV (l[i]?.getD [])])=strsV l:=by
 unfold flatR strsV;apply List.ext_getElem?
 intro i;by_cases c:i<l.length
 · have h1:((List.range l.length).flatMap fun i=> [strV (l[i]?.getD [])])=(List.range l.length).map fun i=> strV (l[i]?.getD []):=by
     rw[List.map_eq_flatMap]
   rw[h1];simp[c]
 · have h1:((List.range l.length).flatMap fun i=> [strV (l[i]?.getD [])])=(List.range l.length).map fun i=> strV (l[i]?.getD []):=by
     rw[List.map_eq_flatMap]
   rw[h1,List.getElem?_eq_none (by simp;omega),List.getElem?_eq_none (by simp;omega)]
theorem strs_back {H:View}{F:Option Addr}{c:Nat}{l:List (List UInt8)}(h:StrsAt H F l.length (fun j=> l[j]?.getD [])):SrcAt H 1 (.slice F l.length c) l.length (strsV l):=by
 rw[←flat_strs l];rcases Nat.eq_zero_or_pos l.length with h0|h0
 · rw[h0];exact⟨⟨_,_,rfl⟩,rfl,.inl ⟨_,_,rfl,rfl⟩⟩
 · rcases h with h|⟨b,o,f,gs,gt,gz,rfl,hb,hl⟩
   · omega
   · refine rows_src (by decide) (fun _=> rfl) h0 hb fun i hi=> ?_;have h1:=hl i hi;rw[Int.toNat_natCast] at h1;have h2:gs[o+i*1]? =some (strV (l[i]?.getD [])):=h1;obtain⟨h3,h4⟩:=List.getElem?_eq_some_iff.1 h2;refine⟨by omega,?_⟩;rw[List.drop_eq_getElem_cons h3,h4];rfl
theorem byts_digs1:∀most,most<4→byts 49 most=digs1.take most:=by decide +kernel
def ListsAt(H:View)(W:Option Addr)(LL:List (List (List UInt8))):Prop:=∀(j:Nat) t,LL[j]? =some t→∃b o f gs gt gz a c,W=some ⟨b,o,none⟩∧H b=some (f,.cells ⟨gs⟩ gt gz)∧ldL false 1 gs (o+((j:Nat):Int).toNat*1)=some (.slice a t.length c)∧StrsAt H a t.length (fun i=> t[i]?.getD [])
section
variable(M:Md prog)(H:View)
theorem Cheap_c(digits most:Nat)(hd:digits≤3)(hm:most≤3):CallT M 54 #[.int .i64 (digits:Nat),.int .i64 (most:Nat)] H (fun v H'=> H.le H'∧∃(G:Option Addr) (c:Nat),v=.slice G (canTo most digits).length c∧StrsAt H' G (canTo most digits).length (fun j=> (canTo most digits)[j]?.getD [])):=by
 have e1:intBin .add .i64 48 ((most:Nat):Int)=some (.int .i64 (48+((most:Nat):Int))):=add_in (by omega) (by omega);have hw:IntKind.u8.wrap (48+((most:Nat):Int))=((48+most:Nat):Int):=by
   rw[show 48+((most:Nat):Int)=((48+most:Nat):Int) by omega];exact u8_128 _ (by omega)
 refine .en func54 ntmps54 fun St c cs hK=> ?_;refine U14 ?_;refine Tc.db (Tc.loopB (σ:= { x:Nat×Gl 9 1×View//x.1≤digits∧H.le x.2.2∧x.2.1.n=(canTo most x.1).length∧x.2.1.l=strsV (canTo most x.1) }) (fun x=> (x.1.2.2,[(0,.int .i64 (digits:Nat)),(1,.int .i64 (most:Nat)),(5,x.1.2.1.val),(6,.int .i64 ((x.1.1+1:Nat):Int))],x.1.2.1.bl)) (fun x=> digits-x.1.1) ?_ ⟨(0,Gl.nil 9 1,H),Nat.zero_le _,View.le_refl _,rfl,rfl⟩);rintro⟨⟨i,g,H₂⟩,hi,hle,hgn,hgl⟩ ih;simp only at hi hle hgn hgl;show Tc M St _ _ H₂ _ [(0,.int .i64 (digits:Nat)),(1,.int .i64 (most:Nat)),(5,g.val),(6,.int .i64 ((i+1:Nat):Int))] g.bl _ _;by_cases c1:i=digits
 · clear ih;subst c1;refine U14 ?_;refine .rt hK func54 results54 [_] ?_;exact fun H' hs=> ⟨View.le_trans hle hs.base,g.blk.map fun b=> ⟨b,0,none⟩,g.cap,by rw[←hgn];rfl,gl_strs g hgn hgl (fun x hx=> hs.at_ x hx)⟩
 · have c2:i<digits:=by omega
   have hnu:=Numbers_c M 49 most (48+most) (by omega) (by omega) (by omega) (i+1) (by omega) H₂;rw[byts_digs1 most (by omega)] at hnu;have hsu:=canTo_succ most i;have hl1:=canTo_len hm i (by omega);have hl2:=allL_len (most:=most) (n:=i+1) hm (by omega);refine U17 ?_;refine To.callF rfl rfl rfl rfl rfl rfl (by decide) (FnT.h hnu) (fun v H₃ hv=> ?_);obtain⟨hle3,G,gc,rfl,hG⟩:=hv;have hsrc:=strs_back (c:=gc) hG;refine .e (Or.append (E:=en) (g:=g) (m:=(allL (digs1.take most) (i+1)).length) (new:=strsV (allL (digs1.take most) (i+1))) 0 rfl rfl rfl rfl rfl rfl rfl rfl rfl rfl rfl rfl rfl rfl rfl (fun H hs=> hsrc.mono hs.base) (strsV_single _) (by omega) rfl (by decide) (fun g2 hn2 hl2=> ?_));refine U8 ?_;exact Tc.db (ih ⟨(i+1,g2,H₃),by simp only;omega,View.le_trans hle hle3,by simp only;rw[hn2,hsu,List.length_append,hgn],by simp only;rw[hl2,hgl,hsu,strsV_app]⟩ (by simp only;omega))
theorem words_c(A:Option Addr)(ac:Nat)(can:List (List UInt8))(hc:can.length≤40)(n:Nat)(hn3:n≤3)(hA:StrsAt H A can.length (fun j=> can[j]?.getD [])):
   CallT M 146 #[.slice A can.length ac,.slice none 0 0,.int .i64 (n:Nat)] H (fun v H'=> H.le H'∧∃(W:Option Addr) (c:Nat),v=.slice W (wordsL can n []).length c∧ListsAt H' W (wordsL can n [])):=by
 refine CallT.mono (words_n M A ac can hc n hn3 n [] (by simp) (Gl.nil 9 1) ⟨rfl,rfl⟩ H hA (fun y hy=> (nomatch hy))) ?_;rintro v H' ⟨h1,⟨⟨gA,X⟩,hnd⟩,rfl,⟨h2,h3⟩,h4⟩;simp only at h2 h3;refine⟨h1,gA.blk.map fun b=> ⟨b,0,none⟩,gA.cap,by rw[←h2];rfl,fun j t hj=> ?_⟩;obtain⟨g,h5,⟨h6,h7⟩,h8⟩:=h3.2 j t hj;have hjl:j<(wordsL can n []).length:=(List.getElem?_eq_some_iff.1 hj).1;have hb:∃b,gA.blk=some b:=by
   cases hb:gA.blk with
   | none=>
     have:=gA.h0 hb;have:=gA.hc;omega
   | some b=> exact⟨b,rfl⟩
 obtain⟨b,hb⟩:=hb;have hbl:gA.bl= [(b,true,.cells ⟨gA.l++gA.junk⟩ 33 (0,0))]:=by unfold Gl.bl;rw[hb]
 have hin:∀y∈g.bl,H' y.1=some y.2:=fun y hy=> by
   have h9:=h8 y hy;have h10:y∈X:=by
     rcases List.mem_append.1 h9 with h|h
     · cases h
     · exact h
   exact(h4 y (List.mem_append_right _ h10)).1
 refine⟨b,0,true,gA.l++gA.junk,33,(0,0),g.blk.map fun b=> ⟨b,0,none⟩,g.cap,by rw[hb];rfl,(h4 (b,true,.cells ⟨gA.l++gA.junk⟩ 33 (0,0)) (List.mem_append_left _ (by rw[hbl];exact List.mem_singleton.2 rfl))).1,?_,gl_strs g h6 h7 hin⟩;show(gA.l++gA.junk)[_]? =_;rw[Nat.zero_add,Int.toNat_natCast,Nat.mul_one,List.getElem?_append_left (by rw[h3.1];exact hjl),h5,←h6];rfl
end
end Go.Proofs.YtdnfdeplcjaonaaGreatDoor
namespace Go.RL
open Go.Conc
section
variable {P:Program}{M:Md P}{St:View→Goroutine→Prop}{n:Nat}{b:FB}{H₀:View}{cs:List Frame}{R:Rg}{L:Bl}{ds:List Deferred}{k:List Item}{S:Array Bool→View→Prop}{md:Region.Mode}{ops:Array Oper}
end
end Go.RL
namespace Go.Proofs.YtdnfdeplcjaonaaGreatDoor
open Go.RL Go.Proofs.Tryz
set_option maxRecDepth 10000
set_option maxHeartbeats 8000000
section
variable(M:Md prog)(H:View)
theorem CheapestR_bad(A:Option Addr)(nw wc:Nat)(w:Nat→Int)(hA:FreeAt H A nw w)(hn:nw≤1000)(digits most:Int)(h:cheapA nw w digits most≠0):
   CallT M 72 #[.slice A nw wc,.int .i64 digits,.int .i64 most] H (fun v H'=> H.le H'∧v=cheapV (.slice none 0 0) 0 (cheapA nw w digits most)):=by
 have hchk:=fun(H':View) (h:H.le H')=> checkCheap_c M H' A nw wc w (hA.le h) hn digits most;generalize cheapA nw w digits most=al at h hchk ⊢;refine .en func72 ntmps72 fun St c cs hK=> ?_;refine U12 ?_;refine .c rfl rfl rfl rfl (fun H hs=> .h (hchk H hs.base)) ?_;refine U15 ?_;refine .rt hK func72 results72 [_,_,_] ?_;exact okB
theorem CheapestR_c(A:Option Addr)(nw wc:Nat)(w:Nat→Int)(hA:FreeAt H A nw w)(digits most:Nat)(h0:1≤(nw:Int)∧(nw:Int)≤3)(hw:(firstTo (fun j=> !weightOk (w j)) nw).isSome=false)(hd:1≤((digits:Nat):Int)∧((digits:Nat):Int)≤3)(hm:1≤((most:Nat):Int)∧((most:Nat):Int)≤3):
   CallT M 72 #[.slice A nw wc,.int .i64 (digits:Nat),.int .i64 (most:Nat)] H (fun v H'=> H.le H'∧∃a n c',v=cheapV (.slice a n c') (cheap w nw digits most).total (cheap w nw digits most).al∧n=(cheap w nw digits most).best.length∧StrsAt H' a n (fun j=> (cheap w nw digits most).best[j]?.getD [])):=by
 have hww:∀i,i<nw→0≤w i∧w i≤99:=fun i hi=> by
   have h1:firstTo (fun j=> !weightOk (w j)) nw=none:=by
     cases q:firstTo (fun j=> !weightOk (w j)) nw with
     | none=> rfl
     | some z=> rw[q] at hw;cases hw
   have h2:=(firstTo_none _).1 h1 i hi;have h3:weightOk (w i)=true:=by simpa using h2
   exact of_decide_eq_true h3
 have ha:cheapA nw w (digits:Nat) (most:Nat)=0:=by
   unfold cheapA;rw[if_neg (fun h=> h h0),if_neg];rintro(h|h|h)
   · rw[hw] at h;cases h
   · exact h hd
   · exact h hm
 have hchk:=fun(H':View) (h:H.le H')=> checkCheap_c M H' A nw wc w (hA.le h) (by omega) (digits:Nat) (most:Nat);rw[ha] at hchk;have hcl:(canTo most digits).length≤40:=by
   have h1:=canTo_len (most:=most) (by omega) digits (by omega);rcases(by omega:digits=1∨digits=2∨digits=3) with rfl|rfl|rfl;all_goals rcases(by omega:most=1∨most=2∨most=3) with rfl|rfl|rfl
   all_goals decide +kernel
 have hwd:∀t,t∈wordsL (canTo most digits) nw []→t.length=nw∧∀s∈t,s.all dig=true∧s.length≤3:=fun t ht=> by
   obtain⟨m,rfl,h1,h2⟩:=mem_words _ _ _ ht;exact⟨by simpa using h1,fun s hs=> mem_canTo (h2 s (by simpa using hs)) (by omega)⟩
 have hcheap:=fun b (hb:Least w (wordsL (canTo most digits) nw []) b)=> cheap_least (fun i hi=> (hww i hi).1) (by omega) (by omega) hb;have hnone:=fun h=> cheap_none (digits:=digits) (most:=most) (fun i hi=> (hww i hi).1) h;have hwl:=words_len hcl nw [];have h40:40 ^ nw≤64000:=by rcases(by omega:nw=1∨nw=2∨nw=3) with rfl|rfl|rfl <;> decide
 refine .en func72 ntmps72 fun St c cs hK=> ?_;refine U12 ?_;refine .c rfl rfl rfl rfl (fun H hs=> .h (hchk H hs.base)) ?_;refine U13 ?_;refine To.callF rfl rfl rfl rfl rfl rfl (by decide) (FnT.h (Cheap_c M H digits most (by omega) (by omega))) (fun v H₂ hv=> ?_);obtain⟨hle2,G,gc,rfl,hG⟩:=hv;refine U2 ?_;refine To.callF rfl rfl rfl rfl rfl rfl (by decide) (FnT.h (words_c M H₂ G gc (canTo most digits) hcl nw (by omega) hG)) (fun v H₃ hv=> ?_);obtain⟨hle3,W,c,rfl,hW⟩:=hv;have hH3:=View.le_trans hle2 hle3;refine U4 ?_;generalize wordsL (canTo most digits) nw []=LL at hW hwd hcheap hnone hwl;by_cases c0:LL.length=0
 · rw[hnone (List.eq_nil_of_length_eq_zero c0)] at hK;rw[c0];refine U12 ?_;refine .rt hK func72 results72 [_,_,_] ?_;exact fun H' hs=> ⟨View.le_trans hH3 hs.base,none,0,0,rfl,rfl,.inl rfl⟩
 · obtain ⟨t0,ht0⟩:∃t0,LL[0]? =some t0:=⟨_,List.getElem?_eq_getElem (by omega)⟩
   obtain⟨wb,wo,wf,wg,wt,wz,a0,cc0,rfl,hwb,f0,hS0⟩:=hW 0 t0 ht0;have f1:ldL false 1 wg (wo+(0:Int).toNat*1)=some (.slice a0 t0.length cc0):=f0;have hA3:=hA.le hH3;have hco:=fun(H':View) (h:H₃.le H') (a:Option Addr) (ac:Nat) (t:List (List UInt8)) (ht:t∈LL) (hS:StrsAt H₃ a t.length (fun i=> t[i]?.getD []))=> cost_c M H' A nw wc w (hA3.le h) hww a ac t (hS.le h) (by rw[(hwd t ht).1];exact Nat.le_refl _) (by omega) (hwd t ht).2;have hbe:=fun(H':View) (h:H₃.le H') (a a':Option Addr) (ac ac':Nat) (t u:List (List UInt8)) (ht:t∈LL) (hu:u∈LL) (hS:StrsAt H₃ a t.length (fun i=> t[i]?.getD [])) (hS':StrsAt H₃ a' u.length (fun i=> u[i]?.getD []))=> before_c M H' a a' ac ac' t u (hS.le h) (hS'.le h) (by rw[(hwd t ht).1,(hwd u hu).1]) (by rw[(hwd t ht).1];omega) (lexB t u) rfl;refine U20 ?_;refine Tc.db (Tc.loopInv (σ:= { x:Nat×List (List UInt8)×Option Addr×Nat//1≤x.1∧x.1≤LL.length∧Least w (LL.take x.1) x.2.1∧StrsAt H₃ x.2.2.1 x.2.1.length (fun i=> x.2.1[i]?.getD []) }) (fun x=> ([(0,.slice A nw wc),(10,.slice (some ⟨wb,wo,none⟩) LL.length c),(11,.slice x.1.2.2.1 x.1.2.1.length x.1.2.2.2),(12,.int .i64 (x.1.1:Nat))],[])) (fun x=> LL.length-x.1.1) ?_ ⟨(1,t0,a0,cc0),Nat.le_refl _,by simp only;omega,by
     have e:LL.take 1= [t0]:=by
       have:=List.take_add_one (l:=LL) (i:=0);rw[ht0] at this;simpa using this
     simp only[e];exact⟨List.mem_singleton.2 rfl,fun t ht=> by rw[List.mem_singleton.1 ht];exact⟨Int.le_refl _,fun _=> lexB_irr _⟩⟩,hS0⟩)
   rintro⟨⟨i,b,a1,c1'⟩,hi1,hi2,hlst,hSb⟩ ih;simp only at hi1 hi2 hlst hSb;show Tc M St _ _ H₃ _ [(0,.slice A nw wc),(10,.slice (some ⟨wb,wo,none⟩) LL.length c),(11,.slice a1 b.length c1'),(12,.int .i64 (i:Nat))] [] _ _;have hbm:b∈LL:=List.mem_of_mem_take hlst.1;have hcb:=fun(H':View) (h:H₃.le H')=> hco H' h a1 c1' b hbm hSb;by_cases c2:i=LL.length
   · clear ih;rw[c2,List.take_length] at hlst;rw[hcheap b hlst] at hK;rw[c2];refine U15 ?_;refine .c rfl rfl rfl rfl (fun H hs=> .h (hcb H hs.base)) ?_;refine U4 ?_;refine .rt hK func72 results72 [_,_,_] ?_;exact fun H' hs=> ⟨View.le_trans hH3 hs.base,a1,b.length,c1',rfl,rfl,hSb.le hs.base⟩
   · have c3:i<LL.length:=by omega
     obtain⟨t,ht⟩:∃t,LL[i]? =some t:=⟨_,List.getElem?_eq_getElem c3⟩
     have htm:t∈LL:=List.mem_of_getElem? ht;obtain⟨wb',wo',wf',wg',wt',wz',a2,c2',hww',hwb',f2,hSt⟩:=hW i t ht;cases hww'
     rw[hwb] at hwb';cases hwb'
     have hct:=fun(H':View) (h:H₃.le H')=> hco H' h a2 c2' t htm hSt;have hbt:=fun(H':View) (h:H₃.le H')=> hbe H' h a2 a1 c2' c1' t b htm hbm hSt hSb;have hst:=least_step (t:=t) hlst;have htk:LL.take (i+1)=LL.take i++[t]:=by rw[List.take_add_one,ht];rfl
     rw[←htk] at hst;have hbd:better w t b=(decide (costL w t<costL w b)||(decide (costL w t=costL w b)&&lexB t b)):=rfl;have hyes:=fun(hb:better w t b=true)=> ih ⟨(i+1,t,a2,c2'),by simp only;omega,by simp only;omega,by simp only;rw[if_pos hb] at hst;exact hst,hSt⟩ (by simp only;omega);have hno:=fun(hb:better w t b=false)=> ih ⟨(i+1,b,a1,c1'),by simp only;omega,by simp only;omega,by simp only;rw[if_neg (by rw[hb];decide)] at hst;exact hst,hSb⟩ (by simp only;omega);clear ih hcheap hnone;generalize costL w t=z1 at hct hbd;generalize costL w b=z2 at hcb hbd;by_cases d1:z1<z2
     · have hy:=hyes (by rw[hbd,decide_eq_true d1];rfl);clear hyes hno;refine U19 ?_;refine .c rfl rfl rfl rfl (fun H hs=> .h (hct H hs.base)) ?_;refine U2 ?_;refine .c rfl rfl rfl rfl (fun H hs=> .h (hcb H hs.base)) ?_;refine U13 ?_;refine To.skippedU rfl (by decide) rfl ?_;refine To.skippedU rfl (by decide) rfl ?_;refine To.skippedU rfl (by decide) rfl ?_;refine To.skippedU rfl (by decide) rfl ?_;refine To.skippedU rfl (by decide) rfl ?_;refine To.skippedU rfl (by decide) rfl ?_;refine U17 ?_;exact Tc.db (hy)
     · by_cases d2:z1=z2
       · generalize lexB t b=lb at hbt hbd;cases lb with
         | true=>
           have hy:=hyes (by rw[hbd,decide_eq_true d2];simp);clear hyes hno;refine U19 ?_;refine .c rfl rfl rfl rfl (fun H hs=> .h (hct H hs.base)) ?_;refine U2 ?_;refine .c rfl rfl rfl rfl (fun H hs=> .h (hcb H hs.base)) ?_;refine U18 ?_;refine .c rfl rfl rfl rfl (fun H hs=> .h (hbt H hs.base)) ?_;refine U17 ?_;exact Tc.db (hy)
         | false=>
           have hy:=hno (by rw[hbd,decide_eq_false d1];simp);clear hyes hno;refine U19 ?_;refine .c rfl rfl rfl rfl (fun H hs=> .h (hct H hs.base)) ?_;refine U2 ?_;refine .c rfl rfl rfl rfl (fun H hs=> .h (hcb H hs.base)) ?_;refine U18 ?_;refine .c rfl rfl rfl rfl (fun H hs=> .h (hbt H hs.base)) ?_;refine U11 ?_;exact Tc.db (hy)
       · have hy:=hno (by rw[hbd,decide_eq_false d1,decide_eq_false d2];rfl);clear hyes hno;refine U19 ?_;refine .c rfl rfl rfl rfl (fun H hs=> .h (hct H hs.base)) ?_;refine U2 ?_;refine .c rfl rfl rfl rfl (fun H hs=> .h (hcb H hs.base)) ?_;refine U30 ?_;exact Tc.db (hy)
end
set_option maxHeartbeats 1000000
section
variable {k:Bk}{t:Nat}{x:Quad}
end
set_option maxHeartbeats 8000000
section
variable(M:Md prog)(H:View)
end
section
variable(M:Md prog)(H:View)
end
theorem eg47:prog.eqGuardType prog.depth 47=false:=by kernel_rfl
theorem band_flat(a b:Int):flat en 2 45 [.int .i64 a,.int .i64 b]:=by
 refine⟨rfl,?_⟩;intro f hf;simp only[List.mem_cons,List.not_mem_nil,or_false] at hf;rcases hf with rfl|rfl
 · exact⟨⟨_,rfl⟩,_,rfl,rfl,Nat.le_of_ble_eq_true rfl⟩
 · exact⟨⟨_,rfl⟩,_,rfl,rfl,Nat.le_of_ble_eq_true rfl⟩
theorem train_flat(a b c d:Int):flat en 3 47 [.int .i64 a,.int .i64 b,.int .i64 c,.int .i64 d]:=by
 refine⟨rfl,?_⟩;intro f hf;simp only[List.mem_cons,List.not_mem_nil,or_false] at hf;rcases hf with rfl|rfl
 · exact⟨band_flat a b,_,rfl,rfl,Nat.le_of_ble_eq_true rfl⟩
 · exact⟨band_flat c d,_,rfl,rfl,Nat.le_of_ble_eq_true rfl⟩
section
variable(M:Md prog)(H:View)
theorem SameTrains_c(k:Bk)(B B':Option Addr)(tc tc':Nat)(hB:TrainsAt H k B tc)(hB':TrainsAt H k B' tc')(hn:k.nt≤1000):
   CallT M 71 #[.slice B k.nt tc,.slice B' k.nt tc'] H (fun v H'=> H.le H'∧v=.bool true):=by
 refine .en func71 ntmps71 fun St c cs hK=> ?_;refine U21 ?_;refine Tc.db (Tc.loopInv (σ:= { j:Nat//j≤k.nt }) (fun j=> ([(0,.slice B k.nt tc),(1,.slice B' k.nt tc'),(5,.int .i64 (j.1:Nat))],[])) (fun j=> k.nt-j.1) ?_ ⟨0,Nat.zero_le _⟩);rintro⟨j,hj⟩ ih;show Tc M St _ _ _ _ [(0,.slice B k.nt tc),(1,.slice B' k.nt tc'),(5,.int .i64 (j:Nat))] [] _ _;by_cases c1:j=k.nt
 · subst c1;clear ih;refine U14 ?_;refine .rt hK func71 results71 [_] ?_;exact okB
 · have c2:j<k.nt:=by omega
   obtain⟨_,h0|⟨ab,ao,f,gs,gt,gz,rfl,hb,hl⟩⟩:=hB
   · omega
   obtain⟨_,h0|⟨ab',ao',f',gs',gt',gz',rfl,hb',hl'⟩⟩:=hB'
   · omega
   have f1:=hl j c2;have f2:=hl' j c2;refine U13 ?_;refine Tc.dr [] [] mixed rfl ?_;refine .nn 0 ?_;refine .nn 1 ?_;refine .nn 2 ?_;refine .nn 3 ?_;refine .nn 4 ?_;refine .nn 5 ?_;refine .nn 6 ?_;refine .nn 7 ?_;refine .q 8 rfl (OpV.neA (E:=en) true 3 rfl rfl rfl rfl rfl eg47 (by decide) (train_flat (k.pf j) (k.pt j) (k.qf j) (k.qt j)) (train_flat (k.pf j) (k.pt j) (k.qf j) (k.qt j)) (by simp)) ?_;refine .dn ?_;refine U8 ?_;exact Tc.db (ih ⟨j+1,by omega⟩ (by simp only;omega))
section
variable(k:Bk)(A:Option Addr)(lc:Nat)(B:Option Addr)(tc:Nat)(hk:BkAt H k A lc B tc)(hn:k.small)(hnm:∀i,i<k.nl→(k.name i).length≤1000000)(ha:k.alarm=0)
include hk hn hnm ha
end
end
set_option maxHeartbeats 16000000
section
variable(M:Md prog)(H:View)
end
theorem cheap_len {w:Nat→Int}{nw digits most:Nat}(hw:∀i,i<nw→0≤w i)(hm:most<4)(hd:digits<4):(cheap w nw digits most).best.length≤nw:=by
 have e:cheap w nw digits most=(wordsL (sortS (canTo most digits)) nw []).foldl (pickW w) ⟨false,0,[]⟩:=cheapGo_fold (n:=nw) hw nw [] _ (by simp);have ha:=words_asc (sortS_asc (canTo_nodup most hm digits hd)) nw [];have hlen:∀t,t∈wordsL (sortS (canTo most digits)) nw []→t.length=nw:=fun t ht=> by
   obtain⟨m,rfl,h1,_⟩:=mem_words _ _ _ ht;simpa using h1
 rw[e];generalize wordsL (sortS (canTo most digits)) nw []=L at ha hlen;cases L with
 | nil=> exact Nat.zero_le _
 | cons y L=>
   have e1:pickW w ⟨false,0,[]⟩ y=⟨true,costL w y,y⟩:=if_neg fun h=> Bool.noConfusion h.1;obtain⟨b',h1,h2,_⟩:=fold_least (w:=w) L y ha;rw[List.foldl_cons,e1,h1];exact Nat.le_of_eq (hlen b' h2.1)
theorem pulsesV_ex(s:List UInt8):∃a al:Int,pulsesV s=.tuple ⟨[.int .i64 a,.int .i64 al]⟩:=by
 unfold pulsesV;split
 · exact⟨_,_,rfl⟩
 · exact⟨_,_,rfl⟩
section
variable(H:View)
theorem trains_both(s:List UInt8)(hs:s.length≤1000)(p:Int):∃(kk:Bk) (al:Int),kk.nt≤1000∧(∀H',H.le H'→CallT (Mp prog) 69 #[strV s,.int .i64 p] H' (fun v H''=> H'.le H''∧∃B tc,v=.tuple ⟨[.slice B kk.nt tc,.int .i64 al]⟩∧TrainsAt H'' kk B tc))∧
   ∀H',H.le H'→CallT (Mp prog) 70 #[strV s,.int .i64 p] H' (fun v H''=> H'.le H''∧∃B tc,v=.tuple ⟨[.slice B kk.nt tc,.int .i64 al]⟩∧TrainsAt H'' kk B tc):=by
 by_cases c:isNum s=false∨¬(0≤p∧p≤99)
 · refine⟨bk0,if isNum s=false then 3 else 1,Nat.zero_le _,fun H' _=> CallT.mono (Trains_no (Mp prog) H' s hs p c) ?_,fun H' _=> CallT.mono (TrainsR_no (Mp prog) H' s hs p c) ?_⟩;all_goals
     rintro v H'' ⟨h1,rfl⟩;exact⟨h1,none,0,rfl,Nat.le_refl _,.inl rfl⟩
 · have c1:isNum s=true:=by
     cases q:isNum s with
     | true=> rfl
     | false=> exact(c (.inl q)).elim
   have c2:0≤p∧p≤99:=by
     by_cases q:0≤p∧p≤99
     · exact q
     · exact(c (.inr q)).elim
   refine⟨dialBk bk0 s p,0,hs,fun H' _=> CallT.mono (Trains_yes (Mp prog) H' s c1 p c2) ?_,fun H' _=> CallT.mono (TrainsR_yes (Mp prog) H' s c1 p c2) ?_⟩;all_goals
     rintro v H'' ⟨h1,g,rfl,⟨h2,h3⟩,h4⟩;refine⟨h1,g.blk.map fun b=> ⟨b,0,none⟩,g.cap,?_,dial_trains bk0 g (fun x hx=> (h4 x hx).1) h2 h3⟩;show Value.tuple ⟨[.slice _ g.n g.cap,_]⟩=_;rw[h2];rfl
theorem cheap_both(A:Option Addr)(nw wc:Nat)(w:Nat→Int)(hA:FreeAt H A nw w)(hn:nw≤20)(digits most:Int):∃(l:List (List UInt8)) (tot al:Int),l.length≤20∧(∀H',H.le H'→CallT (Mp prog) 53 #[.slice A nw wc,.int .i64 digits,.int .i64 most] H' (fun v H''=> H'.le H''∧∃(G:Option Addr) (c:Nat),v=cheapV (.slice G l.length c) tot al∧StrsAt H'' G l.length (fun j=> l[j]?.getD [])))∧
   ∀H',H.le H'→CallT (Mp prog) 72 #[.slice A nw wc,.int .i64 digits,.int .i64 most] H' (fun v H''=> H'.le H''∧∃(G:Option Addr) (c:Nat),v=cheapV (.slice G l.length c) tot al∧StrsAt H'' G l.length (fun j=> l[j]?.getD [])):=by
 by_cases c0:1≤(nw:Int)∧(nw:Int)≤3
 · by_cases c1:(firstTo (fun j=> !weightOk (w j)) nw).isSome=true∨¬(1≤digits∧digits≤3)∨¬(1≤most∧most≤3)
   · have e:cheapA nw w digits most=1:=by unfold cheapA;rw[if_neg (fun h=> h c0),if_pos c1]
     refine⟨[],0,1,Nat.zero_le _,fun H' h=> CallT.mono (Cheapest_limit (Mp prog) H' A nw wc w (hA.le h) digits most c0 c1) ?_,fun H' h=> CallT.mono (CheapestR_bad (Mp prog) H' A nw wc w (hA.le h) (by omega) digits most (by rw[e];decide)) ?_⟩
     · rintro v H'' ⟨h1,rfl⟩;exact⟨h1,none,0,rfl,.inl rfl⟩
     · rintro v H'' ⟨h1,rfl⟩;rw[e];exact⟨h1,none,0,rfl,.inl rfl⟩
   · have hw:(firstTo (fun j=> !weightOk (w j)) nw).isSome=false:=by
       cases q:(firstTo (fun j=> !weightOk (w j)) nw).isSome with
       | false=> rfl
       | true=> exact(c1 (.inl q)).elim
     have hd:1≤digits∧digits≤3:=by
       by_cases q:1≤digits∧digits≤3
       · exact q
       · exact(c1 (.inr (.inl q))).elim
     have hm:1≤most∧most≤3:=by
       by_cases q:1≤most∧most≤3
       · exact q
       · exact(c1 (.inr (.inr q))).elim
     clear c1;obtain⟨d,rfl⟩:∃d:Nat,digits=d:=⟨digits.toNat,by omega⟩
     obtain⟨m,rfl⟩:∃m:Nat,most=m:=⟨most.toNat,by omega⟩
     have hww:∀i,i<nw→0≤w i:=fun i hi=> by
       have h1:firstTo (fun j=> !weightOk (w j)) nw=none:=by
         cases q:firstTo (fun j=> !weightOk (w j)) nw with
         | none=> rfl
         | some z=> rw[q] at hw;cases hw
       have h2:=(firstTo_none _).1 h1 i hi;have h3:weightOk (w i)=true:=by simpa using h2
       exact(of_decide_eq_true h3).1
     have hbl:=cheap_len (digits:=d) (most:=m) hww (by omega) (by omega);refine⟨(cheap w nw d m).best,(cheap w nw d m).total,(cheap w nw d m).al,by omega,fun H' h=> CallT.mono (Cheapest_c (Mp prog) H' A nw wc w (hA.le h) d m c0 hw hd hm) ?_,fun H' h=> CallT.mono (CheapestR_c (Mp prog) H' A nw wc w (hA.le h) d m c0 hw hd hm) ?_⟩
     · rintro v H'' ⟨h1,a,n,c',rfl,rfl,h3⟩;exact⟨h1,a,c',rfl,strs_src h3 rfl⟩
     · rintro v H'' ⟨h1,a,n,c',rfl,rfl,h3⟩;exact⟨h1,a,c',rfl,h3⟩
 · have e:cheapA nw w digits most=2:=if_pos c0;refine⟨[],0,2,Nat.zero_le _,fun H' h=> CallT.mono (Cheapest_tally (Mp prog) H' A nw wc digits most c0) ?_,fun H' h=> CallT.mono (CheapestR_bad (Mp prog) H' A nw wc w (hA.le h) (by omega) digits most (by rw[e];decide)) ?_⟩
   · rintro v H'' ⟨h1,rfl⟩;exact⟨h1,none,0,rfl,.inl rfl⟩
   · rintro v H'' ⟨h1,rfl⟩;rw[e];exact⟨h1,none,0,rfl,.inl rfl⟩
theorem Pulses_w {St:View→Goroutine→Prop}{cs:List Frame}(hG:Glob H)(s:List UInt8)(p:Int)(A:Option Addr)(nw wc:Nat)(w:Nat→Int)(hA:FreeAt H A nw w)(digits most:Int)
   (hR:∀(H₀:View) (R:Rg) (L:Bl) (kk:List Item),lk R 10=some (.bool true)→H.le H₀→Tc (Mp prog) St 99 ⟨13,.normal,none⟩ H₀ cs R L [] (.code .ret::kk)):
   Tc (Mp prog) St 99 ⟨13,.normal,none⟩ H cs (argR [strV s,.int .i64 p,.slice A nw wc,.int .i64 digits,.int .i64 most]) [] [] [.code (bodyOf Tryz.f13)]:=by
 have hlives:=fun(H':View) (h:H.le H')=> lives_c H' (glob_le hG h);by_cases c1:100<s.length
 · refine U19 ?_;refine .c rfl rfl rfl rfl (fun H hs=> .h (hlives H hs.base)) ?_;refine U2 ?_;exact hR _ _ _ _ rfl (View.le_refl _)
 by_cases c2:20<nw
 · refine U19 ?_;refine .c rfl rfl rfl rfl (fun H hs=> .h (hlives H hs.base)) ?_;refine U2 ?_;exact hR _ _ _ _ rfl (View.le_refl _)
 obtain⟨a1,al1,hp⟩:=pulsesV_ex s;have hp1:=fun(H':View)=> isV (Pulses_c (Mp prog) H' s (by omega)) hp;have hp2:=fun(H':View)=> isV (PulsesR_c (Mp prog) H' s (by omega)) hp;obtain⟨kk,al2,hkn,ht1,ht2⟩:=trains_both H s (by omega) p;obtain⟨l,tot,al3,hll,hc1,hc2⟩:=cheap_both H A nw wc w hA (by omega) digits most;clear hp;refine U21 ?_;refine .c rfl rfl rfl rfl (fun H hs=> .h (hp1 H)) ?_;refine U9 ?_;refine .c rfl rfl rfl rfl (fun H hs=> .h (hp2 H)) ?_;refine U24 ?_;refine To.callF rfl rfl rfl rfl rfl rfl (by decide) (FnT.h (ht1 H (View.le_refl _))) (fun v H₂ hv=> ?_);obtain⟨hle2,B2,tc2,rfl,hT2⟩:=hv;refine U10 ?_;refine To.callF rfl rfl rfl rfl rfl rfl (by decide) (FnT.h (ht2 H₂ hle2)) (fun v H₃ hv=> ?_);obtain⟨hle3,B3,tc3,rfl,hT3⟩:=hv;have hH3:=View.le_trans hle2 hle3;refine U8 ?_;have hst:=fun(H':View) (h:H₃.le H')=> SameTrains_c (Mp prog) H' kk B2 B3 tc2 tc3 (hT2.le (View.le_trans hle3 h)) (hT3.le h) hkn;refine U3 ?_;refine .c rfl rfl rfl rfl (fun H hs=> .h (hst H hs.base)) ?_;refine U14 ?_;refine To.callF rfl rfl rfl rfl rfl rfl (by decide) (FnT.h (hc1 H₃ hH3)) (fun v H₄ hv=> ?_);obtain⟨hle4,G4,c4,rfl,hS4⟩:=hv;have hH4:=View.le_trans hH3 hle4;refine U13 ?_;refine To.callF rfl rfl rfl rfl rfl rfl (by decide) (FnT.h (hc2 H₄ hH4)) (fun v H₅ hv=> ?_);obtain⟨hle5,G5,c5,rfl,hS5⟩:=hv;have hH5:=View.le_trans hH4 hle5;refine U9 ?_;have hsw:=fun(H':View) (h:H₅.le H')=> SameWords_c (Mp prog) H' G4 G5 l.length l.length c4 c5 (fun j=> l[j]?.getD []) (fun j=> l[j]?.getD []) (hS4.le (View.le_trans hle5 h)) (hS5.le h) (by omega) (by omega) true (by rw[decide_eq_true rfl,Bool.true_and];exact(allB_iff _).2 fun i _=> decide_eq_true rfl);refine U3 ?_;refine .c rfl rfl rfl rfl (fun H hs=> .h (hsw H hs.base)) ?_;refine U11 ?_;refine .c rfl rfl rfl rfl (fun H hs=> .h (hlives H (View.le_trans hH5 hs.base))) ?_;refine U3 ?_;exact hR _ _ _ _ rfl hH5
end
end Go.Proofs.YtdnfdeplcjaonaaGreatDoor
