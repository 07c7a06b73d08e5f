/-
  Texts of the proofs over baudot/dial: C9 S9 H1 Z7 ZD ZJ ZN KD X3 X4 ZO Bytes ZQ R3 Z6 App3 ZF ZR ZS ZU ZV ZW.
-/
import Derived.Test.YtdnfdeplcjaonaaGreatDoorI08
namespace Go.Proofs.YtdnfdeplcjaonaaGreatDoor
open Go.RL
set_option maxRecDepth 10000
set_option maxHeartbeats 16000000
def digs1:List UInt8:= [49,50,51,52,53,54,55,56,57]
def canTo(most n:Nat):List (List UInt8):=(List.range n).flatMap fun i=> allL (digs1.take most) (i+1)
theorem canTo_succ(most n:Nat):canTo most (n+1)=canTo most n++allL (digs1.take most) (n+1):=by
 unfold canTo;rw[List.range_succ,List.flatMap_append];simp
theorem allFrom_len(dg:List UInt8):∀(d:Nat) (s:List UInt8),(allFrom dg d s).length=dg.length ^ d
 | 0,_=> rfl
 | d+1,s=> by
   unfold allFrom;rw[List.length_flatMap];have:∀x∈dg,(fun x=> (allFrom dg d (s++[x])).length) x=(fun _=> dg.length ^ d) x:=fun x _=> allFrom_len dg d _;rw[List.map_congr_left this,List.map_const',List.sum_replicate_nat,Nat.pow_succ,Nat.mul_comm]
theorem allL_len {most n:Nat}(hm:most≤3)(hn:n≤3):(allL (digs1.take most) n).length≤27:=by
 unfold allL;rw[allFrom_len];have hl:(digs1.take most).length≤3:=by rw[List.length_take];omega
 calc (digs1.take most).length ^ n≤3 ^ n:=Nat.pow_le_pow_left hl n
   _≤3 ^ 3:=Nat.pow_le_pow_right (by decide) hn
   _=27:=by decide
theorem canTo_len {most:Nat}(hm:most≤3):∀n,n≤3→(canTo most n).length≤27*n
 | 0,_=> Nat.le_refl _
 | n+1,h=> by
   rw[canTo_succ,List.length_append];have h1:=canTo_len hm n (by omega);have h2:=allL_len hm h;omega
theorem digs1_dig(most:Nat):(digs1.take most).all dig=true:=by
 have h:digs1.all dig=true:=by decide +kernel
 exact List.all_eq_true.2 fun x hx=> List.all_eq_true.1 h x (List.mem_of_mem_take hx)
theorem mem_canTo {most n:Nat}{s:List UInt8}(h:s∈canTo most n)(hn:n≤3):s.all dig=true∧s.length≤3:=by
 obtain⟨i,hi,h2⟩:=List.mem_flatMap.1 h;obtain⟨h3,h4⟩:=mem_allL h2;have:=List.mem_range.1 hi;exact⟨List.all_eq_true.2 fun y hy=> List.all_eq_true.1 (digs1_dig most) y (h4 y hy),by omega⟩
theorem perm5(a b c d e f:Nat×Bool×Obj)(B:Bl):(a::b::c::d::e::f::B).Perm (c::d::e::a::b::f::B):=by
 have h1:([a,b]++c::(d::e::f::B)).Perm (c::([a,b]++d::e::f::B)):=List.perm_middle;have h2:([a,b]++d::(e::f::B)).Perm (d::([a,b]++e::f::B)):=List.perm_middle;have h3:([a,b]++e::(f::B)).Perm (e::([a,b]++f::B)):=List.perm_middle;exact h1.trans (.cons _ (h2.trans (.cons _ h3)))
def cheap(w:Nat→Int)(nw digits most:Nat):ChSt:=cheapGo (sortS (canTo most digits)) w nw [] 0 ⟨false,0,[]⟩
def cheapV(num:Value)(t a:Int):Value:=.tuple ⟨[num,.int .i64 t,.int .i64 a]⟩
section
variable(M:Md Tryz.prog)(H:View)
theorem Cheapest_c(A:Option Addr)(nw wc:Nat)(w:Nat→Int)(hA:FreeAt H A nw w)(digits most:Nat)(h0:1≤(nw:Int)∧(nw:Int)≤3)(hw:(firstTo (fun j=> !weightOk (w j)) nw).isSome=false)(hd:1≤((digits:Nat):Int)∧((digits:Nat):Int)≤3)(hm:1≤((most:Nat):Int)∧((most:Nat):Int)≤3)(h12:(canTo most digits).length≤12):
   CallT M 53 #[.slice A nw wc,.int .i64 (digits:Nat),.int .i64 (most:Nat)] H (fun v H'=> H.le H'∧∃a n c',v=cheapV (.slice a n c') (cheap w nw digits most).total (cheap w nw digits most).al∧n=(cheap w nw digits most).best.length∧SrcAt H' 1 (.slice a n c') n (strsV (cheap w nw digits most).best)):=by
 have hc:=fun(H':View) (h':H.le H')=> ContainsI_c M H' A nw wc w (hA.le h') (by omega) (.func (.func 121) #[] #[]) (fun j=> !weightOk (w j)) (fun j _ H'' _=> .f ca121 rfl (weightBad_c M H'' (w j)));have hwok:∀i,i<nw→0≤w i∧w i≤99:=fun i hi=> by
   have h1:firstTo (fun j=> !weightOk (w j)) nw=none:=by
     cases hz:firstTo (fun j=> !weightOk (w j)) nw with
     | none=> rfl
     | some y=> rw[hz] at hw;cases hw
   have h2:=(firstTo_none _).1 h1 i hi;unfold weightOk at h2;simpa using h2
 refine .en Tryz.func53 Tryz.ntmps53 fun St c cs hK=> ?_;(iterate 2 refine U ?_);refine .e (.bx (zz:=fun b3=> ?_));refine .e (.al (zz:=fun b6=> ?_));refine .e (.al (zz:=fun b7=> ?_));refine .e (.al (zz:=fun b8=> ?_));(iterate 7 refine U ?_);refine .c rfl rfl rfl rfl (fun H hs=> .f ca82 rfl (between_is M H (nw:Nat) 1 3 true (decide_eq_true h0))) ?_;(iterate 8 refine U ?_);refine .c rfl rfl rfl rfl (fun H hs=> .f ca120 rfl (isB (hc H hs.base) hw)) ?_;(iterate 6 refine U ?_);refine .c rfl rfl rfl rfl (fun H hs=> .f ca82 rfl (between_is M H (digits:Nat) 1 3 true (decide_eq_true hd))) ?_;(iterate 6 refine U ?_);refine .c rfl rfl rfl rfl (fun H hs=> .f ca82 rfl (between_is M H (most:Nat) 1 3 true (decide_eq_true hm))) ?_;(iterate 8 refine U ?_);refine .e (.al (zz:=fun b9=> ?_));(iterate 8 refine U ?_);refine Tc.db (Tc.loopB (σ:= { y:View×Nat×Gl 9 1//H.le y.1∧y.2.1≤digits∧y.2.2.l=strsV (canTo most y.2.1)∧y.2.2.n=(canTo most y.2.1).length })
   (fun y=> (y.1.1,[(2,.int .i64 (most:Nat)),(3,.pointer (some ⟨b3,0,none⟩)),(6,.pointer (some ⟨b6,0,none⟩)),(7,.pointer (some ⟨b7,0,none⟩)),(8,.pointer (some ⟨b8,0,none⟩)),(9,.pointer (some ⟨b9,0,none⟩)),(26,.int .i64 (digits:Nat)),(27,.int .i64 (y.1.2.1:Nat))],
     [(b9,true,.cells ⟨[y.1.2.2.val]⟩ 33 (0,0)),(b8,true,.cells ⟨[.int .i64 0]⟩ 29 (0,0)),(b7,true,.cells ⟨[.int .i64 0]⟩ 3 (0,0)),(b6,true,.cells ⟨[.slice none 0 0]⟩ 33 (0,0)),(b3,true,.cells ⟨[.slice A nw wc]⟩ 26 (0,0))]++y.1.2.2.bl)) (fun y=> digits-y.1.2.1) ?_ ⟨(H,0,Gl.nil 9 1),View.le_refl _,Nat.zero_le _,rfl,rfl⟩)
 rintro⟨⟨H₁,i,g⟩,g1,g2,g3,g4⟩ ih;simp only at g1 g2 g3 g4;show Tc M St _ _ H₁ _ [(2,.int .i64 (most:Nat)),(3,.pointer (some ⟨b3,0,none⟩)),(6,.pointer (some ⟨b6,0,none⟩)),(7,.pointer (some ⟨b7,0,none⟩)),(8,.pointer (some ⟨b8,0,none⟩)),(9,.pointer (some ⟨b9,0,none⟩)),(26,.int .i64 (digits:Nat)),(27,.int .i64 (i:Nat))]
     ([(b9,true,.cells ⟨[g.val]⟩ 33 (0,0)),(b8,true,.cells ⟨[.int .i64 0]⟩ 29 (0,0)),(b7,true,.cells ⟨[.int .i64 0]⟩ 3 (0,0)),(b6,true,.cells ⟨[.slice none 0 0]⟩ 33 (0,0)),(b3,true,.cells ⟨[.slice A nw wc]⟩ 26 (0,0))]++g.bl) _ _
 have hcl:=canTo_len (most:=most) (by omega) i (by omega);by_cases c1:i=digits
 · subst c1;(iterate 10 refine U ?_);refine .e (Or.sortGG (dec:=decS (canTo most i)) (L1:= [(b9,true,.cells ⟨[g.val]⟩ 33 (0,0)),(b8,true,.cells ⟨[.int .i64 0]⟩ 29 (0,0)),(b7,true,.cells ⟨[.int .i64 0]⟩ 3 (0,0)),(b6,true,.cells ⟨[.slice none 0 0]⟩ 33 (0,0)),(b3,true,.cells ⟨[.slice A nw wc]⟩ 26 (0,0))]) g (codesS (canTo most i)) (g3.trans (strsL_codes _).symm) (codes_enc _) (by omega) rfl rfl rfl rfl rfl (by decide) (fun H Q h=> .f ca91 rfl h) (fun g' m hv' hn' hb' hl' ht hs'=> ?_));rw[←hv'];have hso:=codes_sorted g4 ht hs';have hl2:g'.l=strsV (sortS (canTo most i)):=by rw[hl',strsL_map,hso];rfl
   have hslen:(sortS (canTo most i)).length=(canTo most i).length:=(sortS_perm _).length_eq;clear hl' ht hs' hso hv';(iterate 3 refine U ?_);refine .e (.st 1 (zz:=?_));(iterate 3 refine U ?_);refine .e (.al (zz:=fun b11=> ?_));(iterate 4 refine U ?_);refine .e (.st 0 (zz:=?_));(iterate 4 refine U ?_);refine To.lift (L₂:= []) (L₁:= [(b11,true,.cells ⟨[cheapF b8 b7 b3 b6 b9 b11]⟩ 171 (0,0)),(b9,true,.cells ⟨[g'.val]⟩ 33 (0,0)),(b8,true,.cells ⟨[.int .i64 9]⟩ 29 (0,0)),(b7,true,.cells ⟨[.int .i64 0]⟩ 3 (0,0)),(b6,true,.cells ⟨[.slice none 0 0]⟩ 33 (0,0)),(b3,true,.cells ⟨[.slice A nw wc]⟩ 26 (0,0))]++g'.bl) rfl (fun Hx hx=> ?_);obtain⟨H',h1,h2⟩:=SymSt.unappend (B:= [(b8,true,.cells ⟨[.int .i64 9]⟩ 29 (0,0)),(b7,true,.cells ⟨[.int .i64 0]⟩ 3 (0,0)),(b6,true,.cells ⟨[.slice none 0 0]⟩ 33 (0,0))]) (L:= [(b11,true,.cells ⟨[cheapF b8 b7 b3 b6 b9 b11]⟩ 171 (0,0)),(b9,true,.cells ⟨[g'.val]⟩ 33 (0,0)),(b3,true,.cells ⟨[.slice A nw wc]⟩ 26 (0,0))]++g'.bl) (hx.perm (by
     simp only[List.cons_append,List.nil_append];exact(perm5 _ _ _ _ _ _ _).symm))
   have hcap:ChCap (sortS (canTo most i)) w nw b8 b7 b3 b6 b9 b11 (g'.blk.map fun b=> ⟨b,0,none⟩) A g'.cap wc H':=
     ⟨⟨true,h2.get (i:=0) rfl⟩,⟨true,by have h3:=h2.get (i:=1) rfl;rw[hslen,←g4,←hn'];exact h3⟩,⟨true,h2.get (i:=2) rfl⟩,by
       have h3:=strs_of (g0:=g') g' (H:=H') (fun x hx=> h2.at_ x (List.mem_append_right _ hx)) hl2 rfl rfl;rw[hn',g4,←hslen] at h3;exact h3,(hA.le g1).le h2.base⟩
   refine To.callF rfl rfl rfl rfl rfl rfl (by decide) (FnT.of (first:= []) (captured:= [_,_,_,_,_,_]) ca123 rfl (more2_c M (sortS (canTo most i)) w nw b8 b7 b3 b6 b9 b11 (g'.blk.map fun b=> ⟨b,0,none⟩) A g'.cap wc (by omega) (by rw[hslen];omega) (fun s hs=> mem_canTo ((sortS_perm _).mem_iff.1 hs) (by omega)) hwok nw (Gl.nil 9 1) [] 0 ⟨false,0,[]⟩ none 0 0 H' Hx rfl (Nat.zero_add _) (by decide) hcap rfl ⟨⟨_,_,rfl⟩,rfl,.inl ⟨none,0,rfl,rfl⟩⟩ h1)) (fun v H₃ hv=> ?_);obtain⟨_,H₄,g4',a4,n4,c4,r1,r2,r3,r4,r5⟩:=hv;refine To.expand r2 ?_;unfold stB;(iterate 2 refine U ?_);refine Tc.dr [] [] mixed rfl ?_;refine .q 0 rfl (.ld 2) ?_;refine .q 1 rfl (.ld 1) ?_;refine .q 2 rfl (.ld 0) ?_;refine Ta.each [3] (by kernel_rfl) rfl ⟨TaOp.mk rfl rfl rfl (.st 2 (zz:=⟨S2.mk (by exact List.Sublist.refl _) (.inr (by exact List.Sublist.refl _)),?_⟩)),trivial⟩;refine Ta.each [4] (by kernel_rfl) rfl ⟨TaOp.mk rfl rfl rfl (.st 1 (zz:=⟨S2.mk (by exact List.Sublist.refl _) (.inr (by exact List.Sublist.refl _)),?_⟩)),trivial⟩;refine Ta.each [5] (by kernel_rfl) rfl ⟨TaOp.mk rfl rfl rfl (.st 0 (zz:=⟨S2.mk (by exact List.Sublist.refl _) (.inr (by exact List.Sublist.refl _)),?_⟩)),trivial⟩;refine Ta.done (by kernel_rfl) ?_;refine Tc.retN (E:=en) hK Tryz.func53 Tryz.results53 (vs:= [_,_,_]) (by refine⟨⟨2,_,_,_,_,_,_,_,rfl,rfl,rfl,rfl⟩,?_⟩;refine⟨⟨1,_,_,_,_,_,_,_,rfl,rfl,rfl,rfl⟩,?_⟩;refine⟨⟨0,_,_,_,_,_,_,_,rfl,rfl,rfl,rfl⟩,?_⟩;exact trivial) ?_;exact fun H' hs=> ⟨View.le_trans g1 (View.le_trans h2.base (View.le_trans r1 hs.base)),a4,n4,c4,rfl,r4,r5.mono hs.base⟩
 · have c2:i<digits:=by omega
   have hal:=allL_len (most:=most) (n:=i+1) (by omega) (by omega);have hlc:([49,50,51,52,53,54,55,56,57]:List UInt8).length=9:=rfl;have hdl:(digs1.take most).length≤1000:=by rw[List.length_take];omega
   (iterate 14 refine U ?_);refine Tc.drT [7] [6] [0] 5 mixed rfl ?_;refine Ta.tkC 0 (by kernel_rfl) rfl rfl (by decide) rfl rfl (OpV.take (.ld 0)) ?_;refine Ta.tkC 1 (by kernel_rfl) rfl rfl (by decide) rfl rfl (OpV.take .mv) ?_;refine Ta.tkC 2 (by kernel_rfl) rfl rfl (by decide) rfl rfl (OpV.take (.it (zz:=add_in (by omega) (by omega)))) ?_;refine Ta.tkC 3 (by kernel_rfl) rfl rfl (by decide) rfl rfl (OpV.take .mv) ?_;refine Ta.tkC 4 (by kernel_rfl) rfl rfl (by decide) rfl rfl (OpV.take (OpV.sliceS (E:=en) rfl rfl rfl rfl rfl rfl (by omega) (by omega) (by omega))) ?_;refine Ta.each [5] (by kernel_rfl) rfl ⟨TaOp.mk rfl rfl rfl (Or.callNew (fun s=> allF s.1.1 s.1.2) (allB2 (i+1) (digs1.take most)) (fun _=> True) rfl rfl rfl rfl rfl (by decide) (allB2_nodup _ _) (fun H hs=> .f ca116 rfl (all_n M H (i+1) (digs1.take most))) (fun s _=> ⟨S3.mk (by apply List.Sublist.cons;exact List.sublist_append_left _ _) (.inr (by exact List.sublist_append_left _ _)),?_⟩)),trivial⟩;refine Ta.lift (L₂:= [(b9,true,.cells ⟨[g.val]⟩ 33 (0,0)),(b8,true,.cells ⟨[.int .i64 0]⟩ 29 (0,0)),(b7,true,.cells ⟨[.int .i64 0]⟩ 3 (0,0)),(b6,true,.cells ⟨[.slice none 0 0]⟩ 33 (0,0)),(b3,true,.cells ⟨[.slice A nw wc]⟩ 26 (0,0))]) (L₁:=g.bl++allB2 (i+1) (digs1.take most) s) rfl (fun Hx hx=> ?_);obtain⟨H',h1,h2⟩:=hx.unappend;refine Ta.callF 6 (by kernel_rfl) rfl (by kernel_rfl) rfl rfl rfl rfl rfl rfl (by decide) (FnT.f ca122 rfl (AppendSeq_c M g (canTo most i) g3 (by omega) (i+1) (digs1.take most) (by omega) (digs1_dig most) hdl (by omega) s.1.1 s.1.2 H' Hx ⟨⟨true,h2.get (i:=0) rfl⟩,⟨true,h2.get (i:=1) rfl⟩⟩ h1)) (fun v H₃ hv=> ?_);obtain⟨g',H₂,rfl,q1,q2,q3,q4⟩:=hv;refine Ta.expand q2 ?_;refine Ta.each [7] (by kernel_rfl) rfl ⟨TaOp.mk rfl rfl rfl (.st 0 (zz:=⟨S3.off (by kernel_rfl),?_⟩)),trivial⟩;refine Ta.done (by kernel_rfl) ?_;(iterate 5 refine U ?_);exact Tc.db (ih ⟨(H₂,i+1,g'),View.le_trans g1 (View.le_trans h2.base q1),by simp only;omega,by simp only;rw[canTo_succ];exact q3,by simp only;rw[canTo_succ,List.length_append,q4,g4]⟩ (by simp only;omega))
end
end Go.Proofs.YtdnfdeplcjaonaaGreatDoor
namespace Go.Proofs.YtdnfdeplcjaonaaGreatDoor
open Go.RL
set_option maxRecDepth 10000
theorem ddTo_mem {l:List Int}{x:Int}:∀k,k≤l.length→(x∈ddTo l k↔∃i,i<k∧at0 l i=x)
 | 0,_=> by simp[ddTo]
 | k + 1,hk=> by
   have ih:=ddTo_mem (l:=l) (x:=x) k (by omega);unfold ddTo;split
   · rename_i h
     rw[ih];constructor
     · rintro⟨i,h1,h2⟩;exact⟨i,by omega,h2⟩
     · rintro⟨i,h1,h2⟩;by_cases e:i=k
       · subst e;exact⟨i-1,by omega,by rw[←h.2];exact h2⟩
       · exact⟨i,by omega,h2⟩
   · rw[List.mem_append,ih,List.mem_singleton];constructor
     · rintro(⟨i,h1,h2⟩|rfl)
       · exact⟨i,by omega,h2⟩
       · exact⟨k,by omega,rfl⟩
     · rintro⟨i,h1,h2⟩;by_cases e:i=k
       · subst e;exact .inr h2.symm
       · exact .inl ⟨i,by omega,h2⟩
theorem ddTo_asc {l:List Int}{n:Nat}(hs:Srt 0 n l)(hn:n≤l.length):∀k,k≤n→(ddTo l k).Pairwise (· < ·)
 | 0,_=> List.Pairwise.nil
 | k + 1,hk=> by
   have ih:=ddTo_asc hs hn k (by omega);unfold ddTo;split
   · exact ih
   · rename_i h
     rw[List.pairwise_append];refine⟨ih,List.pairwise_singleton _ _,fun a ha b hb=> ?_⟩;have hb':b=at0 l k:=by simpa using hb
     subst hb';obtain⟨i,h1,rfl⟩:=(ddTo_mem k (by omega)).1 ha;have h2:=hs i (k-1) (Nat.zero_le _);have h3:=hs (k-1) k (Nat.zero_le _) (by omega) (by omega);have h4:at0 l k≠at0 l (k-1):=fun e=> h ⟨by omega,e⟩;by_cases e:i=k-1
     · subst e;omega
     · have:=h2 (by omega) (by omega);omega
theorem Srt.at_mem {l:List Int}{x:Int}:x∈l↔∃i,i<l.length∧at0 l i=x:=by
 rw[List.mem_iff_getElem];constructor
 · rintro⟨i,h,rfl⟩;exact⟨i,h,by unfold at0;rw[List.getElem?_eq_getElem h];rfl⟩
 · rintro⟨i,h,e⟩;refine⟨i,h,?_⟩;unfold at0 at e;rw[List.getElem?_eq_getElem h] at e;exact e
theorem asc_uniq {l m:List Int}(hl:l.Pairwise (· < ·))(hm:m.Pairwise (· < ·))(h:∀x,x∈l↔x∈m):l=m:=by
 have hp:l.Perm m:=(List.perm_ext_iff_of_nodup (List.nodup_iff_pairwise_ne.2 (hl.imp (fun h=> Int.ne_of_lt h))) (List.nodup_iff_pairwise_ne.2 (hm.imp (fun h=> Int.ne_of_lt h)))).2 h;exact List.Perm.eq_of_pairwise (le:=(· ≤·)) (fun a b _ _ h1 h2=> Int.le_antisymm h1 h2) (hl.imp (fun h=> Int.le_of_lt h)) (hm.imp (fun h=> Int.le_of_lt h)) hp
def AscS(l:List (List UInt8)):Prop:=l.Pairwise fun a b=> Op.bytesLess a b=true
theorem ascS_uniq {l m:List (List UInt8)}(hl:AscS l)(hm:AscS m)(h:∀x,x∈l↔x∈m):l=m:=by
 have ne:∀ {a b:List UInt8},Op.bytesLess a b=true→a≠b:=fun h e=> by rw[e,less_irr] at h;cases h
 have hp:l.Perm m:=(List.perm_ext_iff_of_nodup (List.nodup_iff_pairwise_ne.2 (hl.imp ne)) (List.nodup_iff_pairwise_ne.2 (hm.imp ne))).2 h;have le:∀ {a b:List UInt8},Op.bytesLess a b=true→leS a b=true:=fun h=> by unfold leS;rw[less_asym h];rfl
 exact sorted_uniq hp (hl.imp le) (hm.imp le)
def putS(x:List UInt8):List (List UInt8)→List (List UInt8)
 | []=> [x]
 | y::t=> if Op.bytesLess x y then x::y::t else if x=y then y::t else y::putS x t
def ascOf:List (List UInt8)→List (List UInt8)
 | []=> []
 | x::t=> putS x (ascOf t)
theorem mem_putS {x z:List UInt8}:∀l,z∈putS x l↔z=x∨z∈l
 | []=> by simp[putS]
 | y ::t=> by
   unfold putS;split
   · simp
   · split
     · rename_i e
       subst e;simp
     · rw[List.mem_cons,mem_putS t,List.mem_cons];constructor
       · rintro(h|h|h)
         · exact .inr (.inl h)
         · exact .inl h
         · exact .inr (.inr h)
       · rintro(h|h|h)
         · exact .inr (.inl h)
         · exact .inl h
         · exact .inr (.inr h)
theorem putS_asc(x:List UInt8):∀l,AscS l→AscS (putS x l)
 | [],_=> List.pairwise_singleton _ _
 | y ::t,h=> by
   obtain⟨h1,h2⟩:=List.pairwise_cons.1 h;unfold putS;split
   · rename_i hx
     refine List.pairwise_cons.2 ⟨fun z hz=> ?_,h⟩;rcases List.mem_cons.1 hz with rfl|hz
     · exact hx
     · exact less_trans hx (h1 z hz)
   · rename_i hx
     split
     · exact h
     · rename_i hne
       refine List.pairwise_cons.2 ⟨fun z hz=> ?_,putS_asc x t h2⟩;rcases(mem_putS t).1 hz with rfl|hz
       · cases e:Op.bytesLess y z with
         | true=> rfl
         | false=> exact(hne (less_tri (by simpa using hx) e)).elim
       · exact h1 z hz
theorem mem_ascOf {z:List UInt8}:∀l,z∈ascOf l↔z∈l
 | []=> Iff.rfl
 | x::t=> by
   unfold ascOf;rw[mem_putS,mem_ascOf t,List.mem_cons]
theorem ascOf_asc:∀l,AscS (ascOf l)
 | []=> List.Pairwise.nil
 | x::t=> putS_asc x _ (ascOf_asc t)
theorem codes_asc {S:List (List UInt8)}{m:List Int}{n:Nat}(hn:n=S.length)(ht:Turned 0 n (codesS S) m)(hs:Srt 0 n m):(ddTo m n).map (decS S)=ascOf S:=by
 have hml:m.length=n:=by rw[ht.len,hn];simp[codesS]
 have hmem:∀x∈ddTo m n,x∈codesS S:=fun x hx=> by
   obtain⟨i,h1,rfl⟩:=(ddTo_mem n (by omega)).1 hx;exact(ht.mem _).1 (at0_mem (by omega))
 refine ascS_uniq ?_ (ascOf_asc S) (fun z=> ?_)
 · unfold AscS;rw[List.pairwise_map];have h1:=ddTo_asc hs (by omega) n (Nat.le_refl _);refine List.Pairwise.imp_of_mem (fun {a b} ha hb h3=> ?_) h1;rw[codes_enc S a (hmem a ha) b (hmem b hb)];exact decide_eq_true h3
 · rw[mem_ascOf,List.mem_map];constructor
   · rintro⟨x,hx,rfl⟩;obtain⟨s,h1,h2⟩:=List.mem_map.1 (hmem x hx);rw[←h2,dec_rank h1];exact h1
   · intro hz;refine⟨((rankS S z:Nat):Int),?_,dec_rank hz⟩;have h1:((rankS S z:Nat):Int)∈m:=(ht.mem _).2 (List.mem_map.2 ⟨z,hz,rfl⟩);obtain⟨i,h2,h3⟩:=Srt.at_mem.1 h1;exact(ddTo_mem n (by omega)).2 ⟨i,by omega,h3⟩
theorem ascOf_congr {l m:List (List UInt8)}(h:∀x,x∈l↔x∈m):ascOf l=ascOf m:=
 ascS_uniq (ascOf_asc l) (ascOf_asc m) fun x=> by rw[mem_ascOf,mem_ascOf,h]
def putI(x:Int):List Int→List Int
 | []=> [x]
 | y::t=> if x<y then x::y::t else if x=y then y::t else y::putI x t
def ascI:List Int→List Int
 | []=> []
 | x::t=> putI x (ascI t)
theorem mem_putI {x z:Int}:∀l,z∈putI x l↔z=x∨z∈l
 | []=> by simp[putI]
 | y ::t=> by
   unfold putI;split
   · simp
   · split
     · rename_i e
       subst e;simp
     · rw[List.mem_cons,mem_putI t,List.mem_cons];constructor
       · rintro(h|h|h)
         · exact .inr (.inl h)
         · exact .inl h
         · exact .inr (.inr h)
       · rintro(h|h|h)
         · exact .inr (.inl h)
         · exact .inl h
         · exact .inr (.inr h)
theorem putI_asc(x:Int):∀l:List Int,l.Pairwise (· < ·)→(putI x l).Pairwise (· < ·)
 | [],_=> List.pairwise_singleton _ _
 | y ::t,h=> by
   obtain⟨h1,h2⟩:=List.pairwise_cons.1 h;unfold putI;split
   · rename_i hx
     refine List.pairwise_cons.2 ⟨fun z hz=> ?_,h⟩;rcases List.mem_cons.1 hz with rfl|hz
     · exact hx
     · have:=h1 z hz;omega
   · rename_i hx
     split
     · exact h
     · rename_i hne
       refine List.pairwise_cons.2 ⟨fun z hz=> ?_,putI_asc x t h2⟩;rcases(mem_putI t).1 hz with rfl|hz
       · omega
       · exact h1 z hz
theorem mem_ascI {z:Int}:∀l,z∈ascI l↔z∈l
 | []=> Iff.rfl
 | x::t=> by
   unfold ascI;rw[mem_putI,mem_ascI t,List.mem_cons]
theorem ascI_asc:∀l,(ascI l).Pairwise (· < ·)
 | []=> List.Pairwise.nil
 | x::t=> putI_asc x _ (ascI_asc t)
theorem ints_asc {S m:List Int}{n:Nat}(hn:n=S.length)(ht:Turned 0 n S m)(hs:Srt 0 n m):ddTo m n=ascI S:=by
 have hml:m.length=n:=by rw[ht.len,hn]
 refine asc_uniq (ddTo_asc hs (by omega) n (Nat.le_refl _)) (ascI_asc S) (fun z=> ?_);rw[mem_ascI,ddTo_mem n (by omega),←ht.mem z,Srt.at_mem,hml]
set_option maxHeartbeats 16000000
def Bk.heardL(k:Bk):List (List UInt8):=ascOf ((k.earsL k.nt).map (·.heard))
def wordsV(g:Gl 9 1)(a:Int):Value:=.tuple ⟨[g.val,.int .i64 a]⟩
theorem nodup_le {α:Type}:∀ {l m:List α},l.Nodup→(∀x∈l,x∈m)→l.length≤m.length
 | [],_,_,_=> Nat.zero_le _
 | x ::t,m,hn,hs=> by
   obtain⟨h1,h2⟩:=List.nodup_cons.1 hn;obtain⟨a,b,rfl⟩:=List.append_of_mem (hs x (List.mem_cons_self ..));have:=nodup_le (l:=t) (m:=a++b) h2 (fun y hy=> by
     have:=hs y (List.mem_cons_of_mem _ hy);rcases List.mem_append.1 this with h|h
     · exact List.mem_append_left _ h
     · rcases List.mem_cons.1 h with rfl|h
       · exact(h1 hy).elim
       · exact List.mem_append_right _ h)
   simp only[List.length_append,List.length_cons] at this ⊢;omega
theorem ears_size {k:Bk}{es:Array MapEntry}{cl n:Nat}(h:MapOk es cl (earF (k.earsS n))):es.size≤(k.earsL n).length:=by
 have hsub:∀x∈es.toList.map (·.key),x∈(k.earsL n).map Ear.val:=by
   intro x hx;obtain⟨e,he,rfl⟩:=List.mem_map.1 hx;obtain⟨y,h1,h2,_⟩:=earF_keys h e he;exact List.mem_map.2 ⟨y,(k.mem_earsL n y).2 h1,h2.symm⟩
 have:=nodup_le h.keys hsub;simpa using this
section
variable(M:Md Tryz.prog)(H:View)
end
set_option maxHeartbeats 8000000
section
variable(M:Md Tryz.prog)(H:View)
end
set_option maxHeartbeats 1000000
theorem firstTo_true {p:Nat→Bool}:∀n {i:Nat},firstTo p n=some i→p i=true
 | 0,_,h=> by cases h
 | n + 1,i,h=> by
   rw[firstTo] at h;cases e:firstTo p n with
   | some j=>
     rw[e] at h;have:=firstTo_true n e;cases h
     exact this
   | none=>
     rw[e] at h;by_cases hp:p n=true
     · rw[if_pos hp] at h;cases h
       exact hp
     · rw[if_neg hp] at h;cases h
theorem firstTo_only {p:Nat→Bool}{n w:Nat}(hw:w<n)(h:p w=true)(h2:∀i,i<n→p i=true→i=w):firstTo p n=some w:=by
 cases e:firstTo p n with
 | none=> have:=(firstTo_none n).1 e w hw;rw[h] at this;cases this
 | some j=> rw[h2 j (firstTo_in n e) (firstTo_true n e)]
theorem begins_iff {s p:List UInt8}:begins s p=true↔p <+:s:=by
 unfold begins;rw[Bool.and_eq_true,decide_eq_true_eq,beq_iff_eq,List.prefix_iff_eq_take];constructor
 · exact fun h=> h.2.symm
 · intro h;refine⟨?_,h.symm⟩;have:=congrArg List.length h;rw[List.length_take] at this;omega
theorem Bk.apart {k:Bk}(ha:k.alarm=0){i j:Nat}(hi:i<k.nl)(hj:j<k.nl)(h:k.num i <+:k.num j):i=j:=by
 have hc:∀a b,a<k.nl→b<a→¬k.num a <+:k.num b∧¬k.num b <+:k.num a:=by
   intro a b hak hba;obtain⟨_,_,_,h4,_⟩:=Bk.line_ok ha hak;unfold Bk.clash at h4;have h5:firstTo (fun i=> clash1 (k.num i) (k.num a)) a=none:=by
     cases e:firstTo (fun i=> clash1 (k.num i) (k.num a)) a with
     | none=> rfl
     | some x=> exact absurd h4 (by show ¬(firstTo (fun i=> clash1 (k.num i) (k.num a)) a).isSome=false;rw[e];exact fun h=> nomatch h)
   have h6:=(firstTo_none a).1 h5 b hba;unfold clash1 at h6;rw[Bool.or_eq_false_iff] at h6;refine⟨fun h=> ?_,fun h=> ?_⟩
   · rw[begins_iff.2 h] at h6;cases h6.1
   · rw[begins_iff.2 h] at h6;cases h6.2
 rcases Nat.lt_trichotomy i j with h1|h1|h1
 · exact((hc j i hj h1).2 h).elim
 · exact h1
 · exact((hc i j hi h1).1 h).elim
theorem Bk.line_is {k:Bk}(ha:k.alarm=0){w:Nat}(hw:w<k.nl){s:List UInt8}(h:k.num w <+:s):k.line s=some w:=by
 unfold Bk.line;refine firstTo_only hw (begins_iff.2 h) fun i hi h2=> ?_;rcases List.prefix_or_prefix_of_prefix h (begins_iff.1 h2) with h3|h3
 · exact(Bk.apart ha hw hi h3).symm
 · exact Bk.apart ha hi hw h3
theorem Bk.line_no {k:Bk}{s:List UInt8}(h:∀i,i<k.nl→¬k.num i <+:s):k.line s=none:=by
 unfold Bk.line;refine(firstTo_none _).2 fun i hi=> ?_;cases e:begins s (k.num i) with
 | false=> rfl
 | true=> exact(h i hi (begins_iff.1 e)).elim
theorem Bk.line_at {k:Bk}{s:List UInt8}{w:Nat}(h:k.line s=some w):w<k.nl∧k.num w <+:s:=⟨firstTo_in _ h,begins_iff.1 (firstTo_true _ h)⟩
theorem kind_cases(k:Bk)(p:Int):(p<k.gap∧k.kind p=0)∨(k.gap≤p∧p<k.give∧k.kind p=1)∨(k.gap≤p∧k.give≤p∧k.kind p=2):=by
 unfold Bk.kind;by_cases h1:p<k.gap
 · exact .inl ⟨h1,if_pos h1⟩
 · by_cases h2:p<k.give
   · exact .inr (.inl ⟨by omega,h2,by rw[if_neg h1,if_pos h2]⟩)
   · exact .inr (.inr ⟨by omega,by omega,by rw[if_neg h1,if_neg h2]⟩)
theorem res_pos {k:Bk}(hok:k.trainsOk):1≤k.resL.length:=by
 obtain⟨e,he⟩:=k.ears_some hok k.nt (Nat.le_refl _);have h:firstI (k.line e.heard)∈k.resL:=(k.mem_resL _).2 ⟨e,he,rfl⟩;exact List.length_pos_of_mem h
theorem Ear.heard_on(e:Ear)(p kd:Nat):e.heard <+:(e.hear p kd).heard:=by
 unfold Ear.hear;split
 · exact List.prefix_refl _
 · split
   · exact List.prefix_refl _
   · split
     · exact List.prefix_refl _
     · exact List.prefix_append _ _
theorem Ear.deaf_on {e:Ear}(h:e.deaf=true)(p kd:Nat):e.hear p kd=e:=if_pos h
theorem fate_line {k:Bk}{e:Ear}{over:Bool}{i:Nat}(h:k.line e.heard=some i):k.fate e over=(i:Nat):=by unfold Bk.fate;rw[h]
theorem fate_none {k:Bk}{e:Ear}{over:Bool}(h:k.line e.heard=none)(h2:((e.deaf||over)||(firstTo (fun i=> begins (k.num i) e.heard) k.nl).isNone)=true):k.fate e over= -1:=by
 unfold Bk.fate;rw[h];exact if_pos h2
theorem fate_on {k:Bk}(ha:k.alarm=0){e:Ear}{f:Int}(hf:f≠ -2)(h:k.fate e false=f)(p kd:Nat)(over:Bool):k.fate (e.hear p kd) over=f:=by
 have hp:=e.heard_on p kd;cases hl:k.line e.heard with
 | some i=>
   rw[fate_line hl] at h;obtain⟨h1,h2⟩:=Bk.line_at hl;rw[fate_line (Bk.line_is ha h1 (h2.trans hp)),h]
 | none=>
   have hno:=(firstTo_none _).1 hl;unfold Bk.fate at h;rw[hl] at h;simp only at h;by_cases c:((e.deaf||false)||(firstTo (fun i=> begins (k.num i) e.heard) k.nl).isNone)=true
   · rw[if_pos c] at h;subst h;by_cases hd:e.deaf=true
     · rw[Ear.deaf_on hd];exact fate_none hl (by rw[hd];rfl)
     · have hd':e.deaf=false:=by simpa using hd
       rw[hd'] at c;have hn:firstTo (fun i=> begins (k.num i) e.heard) k.nl=none:=by simpa using c
       have hn2:=(firstTo_none _).1 hn;have q1:k.line (e.hear p kd).heard=none:=Bk.line_no fun i hi h3=> by
         rcases List.prefix_or_prefix_of_prefix h3 hp with h4|h4
         · have:=hno i hi;rw[begins_iff.2 h4] at this;cases this
         · have:=hn2 i hi;rw[begins_iff.2 h4] at this;cases this
       have q2:firstTo (fun i=> begins (k.num i) (e.hear p kd).heard) k.nl=none:=(firstTo_none _).2 fun i hi=> by
         cases q:begins (k.num i) (e.hear p kd).heard with
         | false=> rfl
         | true=>
           have:=hn2 i hi;rw[begins_iff.2 (hp.trans (begins_iff.1 q))] at this;cases this
       exact fate_none q1 (by rw[q2];simp)
   · rw[if_neg c] at h;exact(hf h.symm).elim
theorem all_on {k:Bk}(ha:k.alarm=0){n:Nat}{f:Int}(hf:f≠ -2)(h:∀e,k.earsS n e→k.fate e (decide (n=k.nt))=f):∀m,n≤m→m≤k.nt→∀e,k.earsS m e→k.fate e (decide (m=k.nt))=f
 | 0,h1,_,e,he=> by
   have:n=0:=by omega
   subst this;exact h e he
 | m + 1,h1,h2,e,he=> by
   by_cases c:n=m+1
   · subst c;exact h e he
   · obtain⟨e0,h3,x,_,rfl⟩:=he;have h4:=all_on ha hf h m (by omega) (by omega) e0 h3;rw[decide_eq_false (by omega)] at h4;exact fate_on ha hf h4 _ _ _
theorem settledTo_some {k:Bk}:∀ {j n:Nat} {f:Int},k.settledTo j=some (n,f)→n<j∧k.fateAt n=some f∧∀i,i<n→k.fateAt i=none
 | 0,_,_,h=> by cases h
 | j + 1, n, f,h=> by
   rw[Bk.settledTo] at h;cases e:k.settledTo j with
   | some x=>
     rw[e] at h;cases h
     have:=settledTo_some e;exact⟨by omega,this.2⟩
   | none=>
     rw[e] at h;cases q:k.fateAt j with
     | none=> rw[q] at h;cases h
     | some z=>
       rw[q] at h;cases h
       refine⟨by omega,q,fun i hi=> ?_⟩;have hno:∀m,k.settledTo m=none→∀i,i<m→k.fateAt i=none:=by
         intro m;induction m with
         | zero=> intro _ i hi;omega
         | succ m ih=>
           intro hm i hi;rw[Bk.settledTo] at hm;cases e1:k.settledTo m with
           | some x=> rw[e1] at hm;cases hm
           | none=>
             rw[e1] at hm;by_cases c:i=m
             · subst c;cases e2:k.fateAt i with
               | none=> rfl
               | some y=> rw[e2] at hm;cases hm
             · exact ih e1 i (by omega)
       exact hno j e i hi
theorem settledTo_le {k:Bk}{n:Nat}{f:Int}(h:k.fateAt n=some f):∀ {j:Nat},n<j→∃n' f',k.settledTo j=some (n',f')∧n'≤n
 | 0,hn=> by omega
 | j + 1,hn=> by
   rw[Bk.settledTo];by_cases c:n=j
   · subst c;cases e:k.settledTo n with
     | some x=> exact⟨x.1,x.2,rfl,by have:=(settledTo_some (n:=x.1) (f:=x.2) e).1;omega⟩
     | none=> rw[h];exact⟨n,f,rfl,Nat.le_refl _⟩
   · obtain⟨n',f',h1,h2⟩:=settledTo_le h (j:=j) (by omega);rw[h1];exact⟨n',f',rfl,h2⟩
section
variable {k:Bk}{t:Nat}{x:Quad}
end
theorem heard_mem {k:Bk}{s:List UInt8}:s∈k.heardL↔∃e,k.earsS k.nt e∧s=e.heard:=by
 unfold Bk.heardL;rw[mem_ascOf,List.mem_map];constructor
 · rintro⟨e,he,rfl⟩;exact⟨e,(k.mem_earsL _ e).1 he,rfl⟩
 · rintro⟨e,he,rfl⟩;exact⟨e,(k.mem_earsL _ e).2 he,rfl⟩
set_option maxHeartbeats 16000000
theorem can_len {k:Bk}(hok:k.trainsOk){i:Nat}(hi:i<k.nt):(k.can i).length≤12:=by
 obtain⟨h1,h2,h3⟩:=k.train_in hok hi;have e:∀a b lo hi:Nat,(canL a b lo hi).length=(b+1-a)*(hi+1-lo):=fun a b lo hi=> by
   unfold canL upN;rw[List.length_flatMap];simp only[List.length_map,List.length_range',List.map_const',List.sum_replicate_nat]
 unfold Bk.can;rw[e];have h4:=k.kind_le (k.qt i);have m1:(k.pt i).toNat+1-(k.pf i).toNat≤4:=by omega
 have m2:k.kind (k.qt i)+1-k.kind (k.qf i)≤3:=by omega
 exact Nat.mul_le_mul m1 m2
theorem ears_count {k:Bk}(ha:k.alarm=0):(k.earsL k.nt).length≤12 ^ 6:=by
 obtain⟨_,_,hnt,hok⟩:=Bk.valid ha;have h:∀n,n≤k.nt→(k.earsL n).length≤12 ^ n:=by
   intro n;induction n with
   | zero=> intro _;exact Nat.le_refl _
   | succ n ih=>
     intro hn;unfold Bk.earsL;rw[List.length_flatMap];have h1:∀l:List Ear,(l.map fun e=> ((k.can n).map fun x=> e.hear x.1 x.2).length).sum≤l.length*12:=by
       intro l;induction l with
       | nil=> exact Nat.le_refl _
       | cons e t iht=>
         have:=can_len hok (i:=n) (by omega);simp only[List.map_cons,List.sum_cons,List.length_map,List.length_cons] at iht ⊢;omega
     have h2:=h1 (k.earsL n);have h3:=ih (by omega);rw[Nat.pow_succ];omega
 exact Nat.le_trans (h k.nt (Nat.le_refl _)) (Nat.pow_le_pow_right (by decide) hnt)
section
variable(M:Md Tryz.prog)(H:View)
theorem HeardG_c(k:Bk)(A:Option Addr)(lc:Nat)(B:Option Addr)(tc:Nat)(hk:BkAt H k A lc B tc)(hn:k.small)(hG:Glob H)(ha:k.alarm=0):
   CallT M 23 #[k.val A lc B tc] H (fun v H'=> H.le H'∧∃g:Gl 9 1,v=wordsV g 0∧(g.n=k.heardL.length∧g.l=strsV k.heardL)∧∀x∈g.bl,H' x.1=some x.2∧H x.1=none):=by
 obtain⟨_,hnl,hnt,hok⟩:=Bk.valid ha;have h12:=ears_count ha;have hop:=fun(H':View) (h':H.le H')=> open_yes M H' k A lc B tc (hk.le h') hn (glob_le hG h') ha;refine .en Tryz.func23 Tryz.ntmps23 fun St c cs hK=> ?_;(iterate 2 refine U ?_);refine .e (.bx (zz:=fun b1=> ?_));(iterate 6 refine U ?_);refine .c rfl rfl rfl rfl (fun H hs=> .f ca81 rfl (hop H hs.base)) ?_;(iterate 3 refine U ?_);refine .e (.al (zz:=fun b4=> ?_));refine .e (.st 0 (zz:=?_));(iterate 21 refine U ?_);refine To.callF rfl rfl rfl rfl rfl rfl (by decide) (FnT.f ca90 rfl (ears_c M H k A lc B tc hk.trains hok hnt k.nt (Nat.le_refl _))) (fun v H₂ hv=> ?_);obtain⟨hle,m,es,cl,rfl,⟨fm,q3⟩,q4⟩:=hv;have hsz:=ears_size q4;refine .e (Or.range (E:=en) (es:=es) (cl:=cl) rfl rfl (fun H hs=> ⟨fm,hs.base _ _ q3⟩) rfl rfl rfl (by decide) (fun it=> ?_));(iterate 2 refine U ?_);refine Tc.db (Tc.loopInv (σ:= { s:Array Nat×List (List UInt8)×Gl 9 1//s.2.2.l=strsV s.2.1∧(unseen es s.1).length+s.2.1.length=es.size∧∀x,x∈(k.earsL k.nt).map (·.heard)↔(x∈s.2.1∨∃me∈unseen es s.1,∃e:Ear,me.key=e.val∧x=e.heard) })
   (fun s=> ([(1,.pointer (some ⟨b1,0,none⟩)),(4,.pointer (some ⟨b4,0,none⟩)),(6,s.1.2.2.val),(21,.pointer (some ⟨it,0,none⟩))],[(it,true,.mapIter (some m) cl s.1.1 cl),(b4,true,.cells ⟨(k.val A lc B tc).cells.toList⟩ 113 (0,0)),(b1,true,.cells ⟨(k.val A lc B tc).cells.toList⟩ 25 (0,0))]++s.1.2.2.bl)) (fun s=> (unseen es s.1.1).length) ?_ ⟨(#[],[],Gl.nil 9 1),rfl,by rw[unseen_start];simp,fun x=> by
     rw[unseen_start,List.mem_map];constructor
     · rintro⟨e,he,rfl⟩;obtain⟨me,h1,h2,_⟩:=(q4.mem e.val (.bool true)).1 ⟨e,(k.mem_earsL _ e).1 he,rfl,rfl⟩;exact .inr ⟨me,h1,e,h2,rfl⟩
     · rintro(h|⟨me,h1,e,h2,rfl⟩)
       · cases h
       · obtain⟨y,h3,h4,_⟩:=earF_keys q4 me h1;rw[ear_inj (h2.symm.trans h4)];exact⟨y,(k.mem_earsL _ y).2 h3,rfl⟩⟩)
 rintro⟨⟨seen,dn,g⟩,p2,p3,p4⟩ ih;simp only at p2 p3 p4;show Tc M St _ _ H₂ _ [(1,.pointer (some ⟨b1,0,none⟩)),(4,.pointer (some ⟨b4,0,none⟩)),(6,g.val),(21,.pointer (some ⟨it,0,none⟩))] ([(it,true,.mapIter (some m) cl seen cl),(b4,true,.cells ⟨(k.val A lc B tc).cells.toList⟩ 113 (0,0)),(b1,true,.cells ⟨(k.val A lc B tc).cells.toList⟩ 25 (0,0))]++g.bl) _ _;have hgn:g.n=dn.length:=by have:=g.hl;rw[p2,strsV_len] at this;omega
 (iterate 2 refine U ?_);refine .e (Or.next (es:=es) 0 rfl rfl rfl (fun H hs=> ⟨fm,hs.base _ _ q3⟩) q4.lt rfl (by decide) (fun me he hse=> ?_) (fun hall=> ?_))
 · have hp :=unseen_next q4.borns he hse;obtain⟨e0,u1,u2,_⟩:=earF_keys q4 me he;have hfind:=earF_find q4 he;have hpl:=hp.length_eq;rw[List.length_cons] at hpl;(iterate 8 refine U ?_);refine .e (Or.entry (es:=es) (e:=me) (st:=me.born) rfl rfl (fun H hs=> ⟨true,hs.get (i:=0) rfl⟩) (fun H hs=> ⟨fm,hs.base _ _ q3⟩) (by simp) hfind rfl (by decide) ?_);rw[u2];refine U ?_;refine .e (.al (zz:=fun b7=> ?_));refine .e (.st 0 (zz:=?_));(iterate 5 refine U ?_);refine .e (.bs (zz:=fun bs=> ?_));refine .e (Or.append (E:=en) 5 rfl rfl rfl rfl rfl rfl rfl rfl rfl rfl rfl rfl rfl rfl rfl (fun H hs=> SrcAt.of (hs.get (i:=0) rfl) (Nat.le_of_ble_eq_true rfl)) rfl (by omega) rfl (by decide) (fun g' hn2 hl2=> ?_));(iterate 3 refine U ?_);exact Tc.db (ih ⟨(seen.push me.born,dn++[e0.heard],g'),by simp only;rw[hl2,p2,strsV_app];rfl,by simp only;rw[List.length_append,List.length_singleton];omega,fun x=> by
     rw[p4 x,List.mem_append,List.mem_singleton];constructor
     · rintro(h|⟨me',h1,e',h2,h5⟩)
       · exact .inl (.inl h)
       · rcases List.mem_cons.1 (hp.mem_iff.1 h1) with rfl|h6
         · rw[ear_inj (h2.symm.trans u2)] at h5;exact .inl (.inr h5)
         · exact .inr ⟨me',h6,e',h2,h5⟩
     · rintro((h|h)|⟨me',h6,h7⟩)
       · exact .inl h
       · exact .inr ⟨me,hp.mem_iff.2 (List.mem_cons_self ..),e0,u2,h⟩
       · exact .inr ⟨me',hp.mem_iff.2 (List.mem_cons_of_mem _ h6),h7⟩⟩ (by simp only;omega))
 · have hnil:=unseen_done hall;rw[hnil] at p3 p4;simp only[List.not_mem_nil,false_and,exists_false,or_false] at p4;rw[List.length_nil,Nat.zero_add] at p3;have hheard:k.heardL=ascOf dn:=ascOf_congr p4;(iterate 8 refine U ?_);refine .e (Or.sortGG (dec:=decS dn) (L1:= [(it,true,.mapIter (some m) cl seen cl),(b4,true,.cells ⟨(k.val A lc B tc).cells.toList⟩ 113 (0,0)),(b1,true,.cells ⟨(k.val A lc B tc).cells.toList⟩ 25 (0,0))]) g (codesS dn) (p2.trans (strsL_codes _).symm) (codes_enc _) (by omega) rfl rfl rfl rfl rfl (by decide) (fun H Q h=> .f ca91 rfl h) (fun g' mm hv' hn' hb' hl' ht hs'=> ?_));rw[←hv'];rw[hgn] at ht hs' hn';have hfin:(ddTo mm dn.length).map (decS dn)=k.heardL:=by rw[hheard];exact codes_asc rfl ht hs'
   have hE':=(codes_enc dn).turned ht;(iterate 4 refine U ?_);refine .e (Or.compSGl (dec:=decS dn) (L1:= [(it,true,.mapIter (some m) cl seen cl),(b4,true,.cells ⟨(k.val A lc B tc).cells.toList⟩ 113 (0,0)),(b1,true,.cells ⟨(k.val A lc B tc).cells.toList⟩ 25 (0,0))]) g' mm hl' hE' (by omega) rfl rfl rfl rfl rfl (by decide) (fun H Q h=> .f ca92 rfl h) (fun g2 hn3 hl3=> ?_));rw[hn'] at hn3 hl3;have hl4:g2.l=strsV k.heardL:=by rw[hl3,strsL_map,hfin];rfl
   have hn4:g2.n=k.heardL.length:=by rw[hn3,←hfin,List.length_map]
   (iterate 3 refine U ?_);refine .rt hK Tryz.func23 Tryz.results23 [_,_] ?_;exact fun H' hs=> ⟨View.le_trans hle hs.base,g2,rfl,⟨hn4,hl4⟩,fun x hx=> ⟨hs.at_ x (by simp[hx]),none_le hle (hs.out x (by simp[hx]))⟩⟩
end
end Go.Proofs.YtdnfdeplcjaonaaGreatDoor
namespace Go.Proofs.YtdnfdeplcjaonaaGreatDoor
open Go.RL
set_option maxRecDepth 100000
theorem ex_heardD:bkD.heardL= [[49,50],[49,51]]:=by decide +kernel
theorem ex_heardE:bkE.heardL= [[49,49,50],[50,50]]:=by decide +kernel
theorem ex_clD:(bkD.claimOf 0=0∧bkD.claimOf 1=0∧bkD.claimOf 2=2)∧bkD.claimOf (-1)=2:=by decide +kernel
theorem ex_clE:(bkE.claimOf 0=2∧bkE.claimOf 1=2∧bkE.claimOf 2=0)∧bkE.claimOf (-1)=0:=by decide +kernel
theorem ex_in1:(firstTo (fun i=> !bkE.inAt (exAt [1,1,2]) (exAt [3,9,9]) i) 3).isSome=false∧bkE.earTo (exAt [1,1,2]) (exAt [3,9,9]) 3=⟨[50,50],0,false⟩∧bkE.line [50,50]=some 2:=by decide +kernel
theorem ex_in2:(firstTo (fun i=> !bkE.inAt (exAt [1,1,2]) (exAt [5,9,9]) i) 3).isSome=false∧bkE.earTo (exAt [1,1,2]) (exAt [5,9,9]) 3=⟨[49,49,50],0,false⟩∧bkE.line [49,49,50]=none:=by decide +kernel
theorem ex_look:bkD.look=(1,1):=by decide +kernel
theorem ex_setD:bkD.settled=none:=by decide +kernel
theorem ex_know:trainOk 2 2 6 6=true∧bkD.nowOk 1 2 2 6 6=true:=by decide +kernel
theorem ex_setO:bkO.settled=some (2,0):=by decide +kernel
theorem ex_taken:(bkD.takenAt 1 0=2∧bkD.takenAt 1 1=0)∧bkD.needTo 1 2=2:=by decide +kernel
theorem ex_slips:ascI (bkD.hits 0)= [1,2]:=by decide +kernel
theorem ex_safe3:bkD.safeV [51]=.tuple ⟨[.bool false,.int .i64 0]⟩:=by
 have h:isNum [51]=true∧bkD.clash [51]=false∧bkD.safe [51]=false:=by decide +kernel
 unfold Bk.safeV;rw[if_neg (by rw[bkD_al];decide),if_neg (by rw[h.1];decide),if_neg (by rw[h.2.1];decide),h.2.2]
theorem ex_safe5:bkD.safeV [53]=.tuple ⟨[.bool true,.int .i64 0]⟩:=by
 have h:isNum [53]=true∧bkD.clash [53]=false∧bkD.safe [53]=true:=by decide +kernel
 unfold Bk.safeV;rw[if_neg (by rw[bkD_al];decide),if_neg (by rw[h.1];decide),if_neg (by rw[h.2.1];decide),h.2.2]
theorem ex_spare:bkD.spareV 1 true=spare3 [48] true 0:=by
 have h:bkD.spare 1 true=some [48]:=by decide +kernel
 unfold Bk.spareV;rw[if_neg (by rw[bkD_al];decide),if_neg (by decide)];show(match bkD.spare 1 true with|some x=> spare3 x true 0|none=> spare3 [] false 0)=_;rw[h]
theorem ex_pulses:pulsesV [49,50,48]=.tuple ⟨[.int .i64 13,.int .i64 0]⟩:=by
 have h:isNum [49,50,48]=true∧takenN [49,50,48]=13:=by decide +kernel
 unfold pulsesV;rw[if_neg (by rw[h.1];decide),h.2];rfl
theorem ex_cheap:(canTo 2 2).length≤12∧(firstTo (fun j=> !weightOk (exAt [5,3,1] j)) 3).isSome=false∧(cheap (exAt [5,3,1]) 3 2 2).total=18∧(cheap (exAt [5,3,1]) 3 2 2).done=true∧(cheap (exAt [5,3,1]) 3 2 2).best= [[49],[50,49],[50,50]]:=by decide +kernel
theorem ex_follow1:bkE.followV 3 3 (exAt [1,1,2]) (exAt [3,9,9])=follow3 [50,50] 2 0:=by
 obtain⟨h1,h2,h3⟩:=ex_in1;unfold Bk.followV;rw[if_neg (by rw[bkE_al];decide),if_neg (by decide)];show(if(firstTo (fun i=> !bkE.inAt (exAt [1,1,2]) (exAt [3,9,9]) i) 3).isSome=true then _ else follow3 (bkE.earTo (exAt [1,1,2]) (exAt [3,9,9]) 3).heard (firstI (bkE.line (bkE.earTo (exAt [1,1,2]) (exAt [3,9,9]) 3).heard)) 0)=_;rw[h1,h2];simp only[Bool.false_eq_true,if_false];rw[h3];rfl
theorem ex_follow2:bkE.followV 3 3 (exAt [1,1,2]) (exAt [5,9,9])=follow3 [49,49,50] (-1) 0:=by
 obtain⟨h1,h2,h3⟩:=ex_in2;unfold Bk.followV;rw[if_neg (by rw[bkE_al];decide),if_neg (by decide)];show(if(firstTo (fun i=> !bkE.inAt (exAt [1,1,2]) (exAt [5,9,9]) i) 3).isSome=true then _ else follow3 (bkE.earTo (exAt [1,1,2]) (exAt [5,9,9]) 3).heard (firstI (bkE.line (bkE.earTo (exAt [1,1,2]) (exAt [5,9,9]) 3).heard)) 0)=_;rw[h1,h2];simp only[Bool.false_eq_true,if_false];rw[h3];rfl
set_option maxRecDepth 10000
set_option maxHeartbeats 32000000
theorem strs_lit {H:View}{b:Nat}{f:Bool}{gt:TypeId}{gz:Nat×Nat}(m:List (List UInt8))(h:H b=some (f,.cells ⟨strsV m⟩ gt gz)):StrsAt H (some ⟨b,0,none⟩) m.length (fun j=> m[j]?.getD []):=
 .inr ⟨b,0,f,_,gt,gz,rfl,h,fun j hj=> by
   show(strsV m)[_]? =_;rw[Nat.zero_add,Int.toNat_natCast,Nat.mul_one];unfold strsV;rw[List.getElem?_map];simp only[List.getElem?_eq_getElem hj];rfl⟩
theorem words_true(l:List (List UInt8)){n:Nat}(hn:n=l.length):(decide (n=l.length)&&allB (fun i=> decide ((fun j=> l[j]?.getD []) i=(fun j=> l[j]?.getD []) i)) n)=true:=by
 rw[decide_eq_true hn,(allB_iff n).2 (fun i _=> decide_eq_true rfl)];rfl
theorem ints_lit {H:View}{b:Nat}{f:Bool}{gt:TypeId}{gz:Nat×Nat}(m:List Int)(h:H b=some (f,.cells ⟨intsL m⟩ gt gz)):FreeAt H (some ⟨b,0,none⟩) m.length (exAt m):=
 .inr ⟨b,0,f,_,gt,gz,rfl,h,fun j hj=> by
   show(intsL m)[_]? =_;rw[Nat.zero_add,Int.toNat_natCast,Nat.mul_one];unfold intsL exAt;rw[List.getElem?_map];simp only[List.getElem?_eq_getElem hj];rfl⟩
theorem cl_at {e:TypeId}(g:Gl e 1){H:View}(h:∀x∈g.bl,H x.1=some x.2){f:Nat→Int}{n:Nat}(hl:g.l=clL f n)(hn:g.n=n):FreeAt H (g.blk.map fun b=> ⟨b,0,none⟩) n f:=by
 cases hb:g.blk with
 | none=>
   have:=g.h0 hb;have:=g.hc;exact .inl (by omega)
 | some b=>
   have hbl:g.bl= [(b,true,.cells ⟨g.l++g.junk⟩ e (0,0))]:=by unfold Gl.bl;rw[hb]
   refine .inr ⟨b,0,true,_,e,(0,0),rfl,h (b,true,.cells ⟨g.l++g.junk⟩ e (0,0)) (by rw[hbl];simp),fun j hj=> ?_⟩;show(g.l++g.junk)[_]? =_;rw[Nat.zero_add,Int.toNat_natCast,Nat.mul_one,List.getElem?_append_left (by rw[hl,clL_len];exact hj),hl];unfold clL;rw[List.getElem?_map,List.getElem?_range hj];rfl
theorem clL_ints(m:List Int):intsL m=clL (exAt m) m.length:=by
 apply List.ext_getElem?
 intro i;unfold intsL clL exAt;rw[List.getElem?_map,List.getElem?_map];by_cases h:i<m.length
 · rw[List.getElem?_range h,List.getElem?_eq_getElem h];simp[h]
 · rw[List.getElem?_eq_none (by omega),List.getElem?_eq_none (by simp;omega)];rfl
theorem three {p:Nat→Prop}(h0:p 0)(h1:p 1)(h2:p 2):∀i,i<3→p i:=fun i hi=> by
 rcases(by omega:i=0∨i=1∨i=2) with rfl|rfl|rfl
 · exact h0
 · exact h1
 · exact h2
theorem two {p:Nat→Prop}(h0:p 0)(h1:p 1):∀i,i<2→p i:=fun i hi=> by
 rcases(by omega:i=0∨i=1) with rfl|rfl
 · exact h0
 · exact h1
theorem strs_src {H:View}{a:Option Addr}{n c:Nat}{l:List (List UInt8)}(h:SrcAt H 1 (.slice a n c) n (strsV l))(hn:n=l.length):StrsAt H a n (fun j=> l[j]?.getD []):=by
 obtain⟨_,_,⟨_,_,h1,h2⟩|⟨b,off,c',f,cs,e,fz,h1,h2,h3,h4⟩⟩:=h
 · have:l= []:=by simpa [strsV] using h2
   exact .inl (by rw[hn,this];rfl)
 · simp only[Value.slice.injEq] at h1;refine .inr ⟨b,off,f,cs,e,fz,h1.1,h2,fun j hj=> ?_⟩;show cs[_]? =_;have hjl:j<l.length:=by omega
   have h5:=congrArg (fun x=> x[j]?) h4;simp only[List.getElem?_take,List.getElem?_drop] at h5;rw[if_pos (by rw[strsV_len];exact hjl)] at h5;rw[Int.toNat_natCast,Nat.mul_one,h5];unfold strsV;rw[List.getElem?_map];simp only[List.getElem?_eq_getElem hjl];rfl
theorem To.permL2 {P:Program}{M:Md P}{St:View→Goroutine→Prop}{n:Nat}{b:FB}{H₀:View}{cs:List Frame}{R:Rg}{L L₁:Bl}{ds:List Deferred}{k:List Item}{dl:List (Option Tmp)}{l:List Oper}(p:L₁.Perm L)(h:To M St n b H₀ cs dl R L₁ ds l k):To M St n b H₀ cs dl R L ds l k:=To.perm p h
theorem lives_c(H:View)(hG:Glob H):CallT (Mp Tryz.prog) 18 #[] H (fun v H'=> H.le H'∧v=.bool true):=by
 have sD:bkD.small:=ex_small rfl (by decide) rfl rfl;have sE:bkE.small:=ex_small rfl (by decide) rfl rfl;have sO:bkO.small:=ex_small rfl (by decide) rfl rfl;refine .en Tryz.func18 Tryz.ntmps18 fun St c cs hK=> ?_;(iterate 6 refine U ?_);refine To.callF rfl rfl rfl rfl rfl rfl (by decide) (FnT.f ca77 rfl (Example_c _ H)) (fun v H1 hv=> ?_);obtain⟨tl1,dA,dlc,dB,dtc,dF,dfc,rfl,hD1⟩:=hv;refine To.callF rfl rfl rfl rfl rfl rfl (by decide) (FnT.f ca78 rfl (joined_c _ H1)) (fun v H2 hv=> ?_);obtain⟨le2,eA,elc,eB,etc,eF,efc,rfl,hE2⟩:=hv;have tl2:=View.le_trans tl1 le2;have hD2:=hD1.le le2;have hG2:=glob_le hG tl2;refine .e (.al (zz:=fun b1=> ?_));refine .e (.al (zz:=fun b2=> ?_));refine .e (.st 1 (zz:=?_));refine .e (.st 0 (zz:=?_));(iterate 2 refine U ?_);refine Tc.dropB (R':= [(1,.pointer (some ⟨b1,0,none⟩)),(2,.pointer (some ⟨b2,0,none⟩))]) (L':= [(b2,true,.cells ⟨(bkE.val eA elc eB etc).cells.toList⟩ 25 (0,0)),(b1,true,.cells ⟨(bkD.val dA dlc dB dtc).cells.toList⟩ 25 (0,0))]) ?_ ⟨rfl,rfl,trivial⟩ (by exact List.Sublist.refl _);(iterate 2 refine U ?_);refine To.callF rfl rfl rfl rfl rfl rfl (by decide) (FnT.f ca23 rfl (HeardG_c _ H2 bkD dA dlc dB dtc hD2.bk sD hG2 bkD_al)) (fun v H3 hv=> ?_);obtain⟨le3,g3,rfl,⟨ng3,lg3⟩,mg3⟩:=hv;rw[ex_heardD] at ng3 lg3;(iterate 6 refine U ?_);have tl3:=View.le_trans tl2 le3;have hD3:=hD2.le le3;have hE3:=hE2.le le3;have hG3:=glob_le hG tl3;refine U ?_;refine Tc.dropB (R':= [(1,.pointer (some ⟨b1,0,none⟩)),(2,.pointer (some ⟨b2,0,none⟩)),(3,g3.val),(4,.int .i64 0)]) (L':= [(b2,true,.cells ⟨(bkE.val eA elc eB etc).cells.toList⟩ 25 (0,0)),(b1,true,.cells ⟨(bkD.val dA dlc dB dtc).cells.toList⟩ 25 (0,0))]) ?_ ⟨rfl,rfl,rfl,rfl,trivial⟩ (by exact List.Sublist.refl _);(iterate 2 refine U ?_);refine To.callF rfl rfl rfl rfl rfl rfl (by decide) (FnT.f ca26 rfl (Reaches_c _ H3 bkD dA dlc dB dtc hD3.bk sD hG3 bkD_al)) (fun v H4 hv=> ?_);obtain⟨le4,g5,rfl,⟨ng5,lg5⟩,mg5⟩:=hv;rw[ex_clD.2];(iterate 8 refine U ?_);have tl4:=View.le_trans tl3 le4;have hD4:=hD3.le le4;have hE4:=hE3.le le4;have hG4:=glob_le hG tl4;refine U ?_;refine Tc.dropB (R':= [(1,.pointer (some ⟨b1,0,none⟩)),(2,.pointer (some ⟨b2,0,none⟩)),(3,g3.val),(4,.int .i64 0),(5,g5.val),(6,.int .i64 2),(7,.int .i64 0)]) (L':= [(b2,true,.cells ⟨(bkE.val eA elc eB etc).cells.toList⟩ 25 (0,0)),(b1,true,.cells ⟨(bkD.val dA dlc dB dtc).cells.toList⟩ 25 (0,0))]) ?_ ⟨rfl,rfl,rfl,rfl,rfl,rfl,rfl,trivial⟩ (by exact List.Sublist.refl _);(iterate 2 refine U ?_);refine To.callF rfl rfl rfl rfl rfl rfl (by decide) (FnT.f ca23 rfl (HeardG_c _ H4 bkE eA elc eB etc hE4.bk sE hG4 bkE_al)) (fun v H5 hv=> ?_);obtain⟨le5,g8,rfl,⟨ng8,lg8⟩,mg8⟩:=hv;rw[ex_heardE] at ng8 lg8;(iterate 6 refine U ?_);have tl5:=View.le_trans tl4 le5;have hD5:=hD4.le le5;have hE5:=hE4.le le5;have hG5:=glob_le hG tl5;refine U ?_;refine Tc.dropB (R':= [(1,.pointer (some ⟨b1,0,none⟩)),(2,.pointer (some ⟨b2,0,none⟩)),(3,g3.val),(4,.int .i64 0),(5,g5.val),(6,.int .i64 2),(7,.int .i64 0),(8,g8.val),(9,.int .i64 0)]) (L':= [(b2,true,.cells ⟨(bkE.val eA elc eB etc).cells.toList⟩ 25 (0,0)),(b1,true,.cells ⟨(bkD.val dA dlc dB dtc).cells.toList⟩ 25 (0,0))]) ?_ ⟨rfl,rfl,rfl,rfl,rfl,rfl,rfl,rfl,rfl,trivial⟩ (by exact List.Sublist.refl _);(iterate 2 refine U ?_);refine To.callF rfl rfl rfl rfl rfl rfl (by decide) (FnT.f ca26 rfl (Reaches_c _ H5 bkE eA elc eB etc hE5.bk sE hG5 bkE_al)) (fun v H6 hv=> ?_);obtain⟨le6,g10,rfl,⟨ng10,lg10⟩,mg10⟩:=hv;rw[ex_clE.2];(iterate 8 refine U ?_);have tl6:=View.le_trans tl5 le6;have hD6:=hD5.le le6;have hE6:=hE5.le le6;have hG6:=glob_le hG tl6;refine U ?_;refine Tc.db (R':= [(1,.pointer (some ⟨b1,0,none⟩)),(2,.pointer (some ⟨b2,0,none⟩)),(3,g3.val),(4,.int .i64 0),(5,g5.val),(6,.int .i64 2),(7,.int .i64 0),(8,g8.val),(9,.int .i64 0),(10,g10.val),(11,.int .i64 0),(12,.int .i64 0)]) (L':= [(b2,true,.cells ⟨(bkE.val eA elc eB etc).cells.toList⟩ 25 (0,0)),(b1,true,.cells ⟨(bkD.val dA dlc dB dtc).cells.toList⟩ 25 (0,0))]) ?_;have fl6:=fun(H':View) (p1 p2:Nat) (h':H6.le H') (k1:H' p1=some (true,.cells ⟨intsL [1,1,2]⟩ 3 (0,0))) (k2:H' p2=some (true,.cells ⟨intsL [3,9,9]⟩ 3 (0,0)))=> isV (Follow_c (Mp Tryz.prog) H' bkE eA elc eB etc (hE6.bk.le h') sE (glob_le hG6 h') (some ⟨p1,0,none⟩) (some ⟨p2,0,none⟩) 3 3 3 3 (exAt [1,1,2]) (exAt [3,9,9]) (ints_lit [1,1,2] k1) (ints_lit [3,9,9] k2)) ex_follow1;(iterate 2 refine U ?_);refine .e (.bs (zz:=fun p1=> ?_));refine .e (.bs (zz:=fun p2=> ?_));refine .c rfl rfl rfl rfl (fun H hs=> .f ca19 rfl (fl6 H p1 p2 hs.base (hs.get (i:=1) rfl) (hs.get (i:=0) rfl))) ?_;(iterate 9 refine U ?_);refine Tc.db (R':= [(1,.pointer (some ⟨b1,0,none⟩)),(2,.pointer (some ⟨b2,0,none⟩)),(3,g3.val),(4,.int .i64 0),(5,g5.val),(6,.int .i64 2),(7,.int .i64 0),(8,g8.val),(9,.int .i64 0),(10,g10.val),(11,.int .i64 0),(12,.int .i64 0),(13,strV [50,50]),(14,.int .i64 2),(15,.int .i64 0)]) (L':= [(b2,true,.cells ⟨(bkE.val eA elc eB etc).cells.toList⟩ 25 (0,0)),(b1,true,.cells ⟨(bkD.val dA dlc dB dtc).cells.toList⟩ 25 (0,0))]) ?_;have fl7:=fun(H':View) (p1 p2:Nat) (h':H6.le H') (k1:H' p1=some (true,.cells ⟨intsL [1,1,2]⟩ 3 (0,0))) (k2:H' p2=some (true,.cells ⟨intsL [5,9,9]⟩ 3 (0,0)))=> isV (Follow_c (Mp Tryz.prog) H' bkE eA elc eB etc (hE6.bk.le h') sE (glob_le hG6 h') (some ⟨p1,0,none⟩) (some ⟨p2,0,none⟩) 3 3 3 3 (exAt [1,1,2]) (exAt [5,9,9]) (ints_lit [1,1,2] k1) (ints_lit [5,9,9] k2)) ex_follow2;(iterate 2 refine U ?_);refine .e (.bs (zz:=fun p1=> ?_));refine .e (.bs (zz:=fun p2=> ?_));refine .c rfl rfl rfl rfl (fun H hs=> .f ca19 rfl (fl7 H p1 p2 hs.base (hs.get (i:=1) rfl) (hs.get (i:=0) rfl))) ?_;(iterate 9 refine U ?_);refine Tc.dropB (R':= [(1,.pointer (some ⟨b1,0,none⟩)),(2,.pointer (some ⟨b2,0,none⟩)),(3,g3.val),(4,.int .i64 0),(5,g5.val),(6,.int .i64 2),(7,.int .i64 0),(8,g8.val),(9,.int .i64 0),(10,g10.val),(11,.int .i64 0),(12,.int .i64 0),(13,strV [50,50]),(14,.int .i64 2),(15,.int .i64 0),(16,strV [49,49,50]),(17,.int .i64 (-1)),(18,.int .i64 0)]) (L':= [(b2,true,.cells ⟨(bkE.val eA elc eB etc).cells.toList⟩ 25 (0,0)),(b1,true,.cells ⟨(bkD.val dA dlc dB dtc).cells.toList⟩ 25 (0,0))]) ?_ ⟨rfl,rfl,rfl,rfl,rfl,rfl,rfl,rfl,rfl,rfl,rfl,rfl,rfl,rfl,rfl,rfl,rfl,rfl,trivial⟩ (by apply List.Sublist.cons;apply List.Sublist.cons;exact List.Sublist.refl _);(iterate 2 refine U ?_);refine .c rfl rfl rfl rfl (fun H hs=> .f ca33 rfl (isV (Look_c H bkD dA dlc dB dtc dF dfc (hD6.le hs.base) sD (glob_le hG6 hs.base) bkD_al) (congrArg lookV ex_look))) ?_;(iterate 9 refine U ?_);refine Tc.dropB (R':= [(1,.pointer (some ⟨b1,0,none⟩)),(2,.pointer (some ⟨b2,0,none⟩)),(3,g3.val),(4,.int .i64 0),(5,g5.val),(6,.int .i64 2),(7,.int .i64 0),(8,g8.val),(9,.int .i64 0),(10,g10.val),(11,.int .i64 0),(12,.int .i64 0),(13,strV [50,50]),(14,.int .i64 2),(15,.int .i64 0),(16,strV [49,49,50]),(17,.int .i64 (-1)),(18,.int .i64 0),(19,.int .i64 1),(20,.int .i64 1),(21,.int .i64 0)]) (L':= [(b2,true,.cells ⟨(bkE.val eA elc eB etc).cells.toList⟩ 25 (0,0)),(b1,true,.cells ⟨(bkD.val dA dlc dB dtc).cells.toList⟩ 25 (0,0))]) ?_ ⟨rfl,rfl,rfl,rfl,rfl,rfl,rfl,rfl,rfl,rfl,rfl,rfl,rfl,rfl,rfl,rfl,rfl,rfl,rfl,rfl,rfl,trivial⟩ (by exact List.Sublist.refl _);(iterate 2 refine U ?_);refine .c rfl rfl rfl rfl (fun H hs=> .f ca31 rfl (isV (Settled_c _ H bkD dA dlc dB dtc (hD6.bk.le hs.base) sD (glob_le hG6 hs.base) bkD_al) (congrArg settledV ex_setD))) ?_;(iterate 11 refine U ?_);refine Tc.db (R':= [(1,.pointer (some ⟨b1,0,none⟩)),(2,.pointer (some ⟨b2,0,none⟩)),(3,g3.val),(4,.int .i64 0),(5,g5.val),(6,.int .i64 2),(7,.int .i64 0),(8,g8.val),(9,.int .i64 0),(10,g10.val),(11,.int .i64 0),(12,.int .i64 0),(13,strV [50,50]),(14,.int .i64 2),(15,.int .i64 0),(16,strV [49,49,50]),(17,.int .i64 (-1)),(18,.int .i64 0),(19,.int .i64 1),(20,.int .i64 1),(21,.int .i64 0),(22,.int .i64 0),(23,.int .i64 0),(24,.bool false),(25,.int .i64 0)]) (L':= [(b2,true,.cells ⟨(bkE.val eA elc eB etc).cells.toList⟩ 25 (0,0)),(b1,true,.cells ⟨(bkD.val dA dlc dB dtc).cells.toList⟩ 25 (0,0))]) ?_;refine Tc.viaB (fun H' R' L'=> ∃oA olc oB otc oF ofc b26,H6.le H'∧BookAt H' bkO oA olc oB otc oF ofc∧AllIn [(1,.pointer (some ⟨b1,0,none⟩)),(2,.pointer (some ⟨b2,0,none⟩)),(3,g3.val),(4,.int .i64 0),(5,g5.val),(6,.int .i64 2),(7,.int .i64 0),(8,g8.val),(9,.int .i64 0),(10,g10.val),(11,.int .i64 0),(12,.int .i64 0),(13,strV [50,50]),(14,.int .i64 2),(15,.int .i64 0),(16,strV [49,49,50]),(17,.int .i64 (-1)),(18,.int .i64 0),(19,.int .i64 1),(20,.int .i64 1),(21,.int .i64 0),(22,.int .i64 0),(23,.int .i64 0),(24,.bool false),(25,.int .i64 0),(26,.pointer (some ⟨b26,0,none⟩)),(27,.int .i64 0)] R'∧List.Sublist [(b26,true,.cells ⟨(bkO.val oA olc oB otc).cells.toList⟩ 25 (0,0)),(b2,true,.cells ⟨(bkE.val eA elc eB etc).cells.toList⟩ 25 (0,0)),(b1,true,.cells ⟨(bkD.val dA dlc dB dtc).cells.toList⟩ 25 (0,0))] L') ?_ (fun fin=> ?_)
 rotate_left
 · refine Tc.dr [7] [] mixed rfl ?_;refine .q 0 rfl (OpV.load (E:=en) 1 rfl rfl rfl rfl rfl) ?_;refine .z 1 rfl (OpV.takeCall rfl rfl rfl rfl (fun H hs=> .f ca79 rfl (train_c _ H 2 6))) ?_;refine Ta.callL2 2 6 (by kernel_rfl) rfl rfl rfl rfl rfl rfl rfl (by decide) (FnT.f ca35 rfl (Know_c _ H6 bkD dA dlc dB dtc dF dfc hD6 sD hG6 bkD_al 1 (by decide) 2 2 6 6 ex_know.1 ex_know.2)) (by intro _ _ hh;exact hh.1) (by exact List.Sublist.refl _) (.inr (by exact List.Sublist.refl _)) (fun v Hk hv=> ?_) (TaOp.mk rfl rfl rfl (.al (zz:=fun b26=> ⟨S2.mk (by apply List.Sublist.cons;exact List.Sublist.refl _) (.inr (by apply List.Sublist.cons;exact List.Sublist.refl _)),?_⟩)))
   · obtain⟨lek,oA,olc,oB,otc,oF,ofc,rfl,hO⟩:=hv;refine .q 3 rfl .mv ?_;refine .q 4 rfl .et ?_;refine Ta.tkw 5 (by kernel_rfl) rfl rfl rfl (by decide) rfl rfl (OpV.take .et) ?_;refine Ta.each [6] (by kernel_rfl) rfl ⟨TaOp.mk rfl rfl rfl (.al (zz:=fun b26=> ⟨S2.mkL lek (by apply List.Sublist.cons;exact List.Sublist.refl _) (.inr (by apply List.Sublist.cons;exact List.Sublist.refl _)),?_⟩)),trivial⟩;refine Ta.each [7] (by kernel_rfl) rfl ⟨TaOp.mk rfl rfl rfl (Or.storeT (E:=en) 0 rfl rfl rfl rfl rfl rfl rfl rfl rfl rfl rfl ⟨S2.mkL lek (by apply List.Sublist.cons;exact List.Sublist.refl _) (.inl (by kernel_rfl)),?_⟩),trivial⟩;refine Ta.tkw 8 (by kernel_rfl) rfl rfl rfl (by decide) rfl rfl (OpV.take .sg) ?_;refine Ta.done (by kernel_rfl) ?_;exact fin _ _ _ ⟨oA,olc,oB,otc,oF,ofc,b26,lek,hO,⟨rfl,rfl,rfl,rfl,rfl,rfl,rfl,rfl,rfl,rfl,rfl,rfl,rfl,rfl,rfl,rfl,rfl,rfl,rfl,rfl,rfl,rfl,rfl,rfl,rfl,rfl,rfl,trivial⟩,(by exact List.Sublist.refl _)⟩
   · refine Ta.callL 2 (by kernel_rfl) rfl rfl rfl rfl rfl rfl rfl (by decide) (FnT.f ca35 rfl (Know_c _ H6 bkD dA dlc dB dtc dF dfc hD6 sD hG6 bkD_al 1 (by decide) 2 2 6 6 ex_know.1 ex_know.2)) (by intro _ _ hh;exact hh.1) (by apply List.Sublist.cons;exact List.Sublist.refl _) (.inr (by apply List.Sublist.cons;exact List.Sublist.refl _)) (fun v Hk hv=> ?_);obtain⟨lek,oA,olc,oB,otc,oF,ofc,rfl,hO⟩:=hv;refine .q 3 rfl .mv ?_;refine .q 4 rfl .et ?_;refine Ta.tkw 5 (by kernel_rfl) rfl rfl rfl (by decide) rfl rfl (OpV.take .et) ?_;refine Ta.each [7] (by kernel_rfl) rfl ⟨TaOp.mk rfl rfl rfl (Or.storeT (E:=en) 0 rfl rfl rfl rfl rfl rfl rfl rfl rfl rfl rfl ⟨S2.mkL lek (by apply List.Sublist.cons;exact List.Sublist.refl _) (.inl (by kernel_rfl)),?_⟩),trivial⟩;refine Ta.tkw 8 (by kernel_rfl) rfl rfl rfl (by decide) rfl rfl (OpV.take .sg) ?_;refine Ta.done (by kernel_rfl) ?_;exact fin _ _ _ ⟨oA,olc,oB,otc,oF,ofc,b26,lek,hO,⟨rfl,rfl,rfl,rfl,rfl,rfl,rfl,rfl,rfl,rfl,rfl,rfl,rfl,rfl,rfl,rfl,rfl,rfl,rfl,rfl,rfl,rfl,rfl,rfl,rfl,rfl,rfl,trivial⟩,(by exact List.Sublist.refl _)⟩
 rintro H7 R' L' ⟨oA,olc,oB,otc,oF,ofc,b26,le7,hO7,hR,hL⟩;have tl7:=View.le_trans tl6 le7;have hD7:=hD6.le le7;have hE7:=hE6.le le7;have hG7:=glob_le hG tl7;refine Tc.dropB (R':= [(1,.pointer (some ⟨b1,0,none⟩)),(2,.pointer (some ⟨b2,0,none⟩)),(3,g3.val),(4,.int .i64 0),(5,g5.val),(6,.int .i64 2),(7,.int .i64 0),(8,g8.val),(9,.int .i64 0),(10,g10.val),(11,.int .i64 0),(12,.int .i64 0),(13,strV [50,50]),(14,.int .i64 2),(15,.int .i64 0),(16,strV [49,49,50]),(17,.int .i64 (-1)),(18,.int .i64 0),(19,.int .i64 1),(20,.int .i64 1),(21,.int .i64 0),(22,.int .i64 0),(23,.int .i64 0),(24,.bool false),(25,.int .i64 0),(26,.pointer (some ⟨b26,0,none⟩)),(27,.int .i64 0)]) (L':= [(b26,true,.cells ⟨(bkO.val oA olc oB otc).cells.toList⟩ 25 (0,0)),(b2,true,.cells ⟨(bkE.val eA elc eB etc).cells.toList⟩ 25 (0,0)),(b1,true,.cells ⟨(bkD.val dA dlc dB dtc).cells.toList⟩ 25 (0,0))]) ?_ hR hL;(iterate 3 refine U ?_);refine .c rfl rfl rfl rfl (fun H hs=> .f ca31 rfl (isV (Settled_c _ H bkO oA olc oB otc (hO7.bk.le hs.base) sO (glob_le hG7 hs.base) bkO_al) (congrArg settledV ex_setO))) ?_;(iterate 11 refine U ?_);refine Tc.db (R':= [(1,.pointer (some ⟨b1,0,none⟩)),(2,.pointer (some ⟨b2,0,none⟩)),(3,g3.val),(4,.int .i64 0),(5,g5.val),(6,.int .i64 2),(7,.int .i64 0),(8,g8.val),(9,.int .i64 0),(10,g10.val),(11,.int .i64 0),(12,.int .i64 0),(13,strV [50,50]),(14,.int .i64 2),(15,.int .i64 0),(16,strV [49,49,50]),(17,.int .i64 (-1)),(18,.int .i64 0),(19,.int .i64 1),(20,.int .i64 1),(21,.int .i64 0),(22,.int .i64 0),(23,.int .i64 0),(24,.bool false),(25,.int .i64 0),(26,.pointer (some ⟨b26,0,none⟩)),(27,.int .i64 0),(28,.int .i64 2),(29,.int .i64 0),(30,.bool true),(31,.int .i64 0)]) (L':= [(b26,true,.cells ⟨(bkO.val oA olc oB otc).cells.toList⟩ 25 (0,0)),(b2,true,.cells ⟨(bkE.val eA elc eB etc).cells.toList⟩ 25 (0,0)),(b1,true,.cells ⟨(bkD.val dA dlc dB dtc).cells.toList⟩ 25 (0,0))]) ?_;have e2:bkD.needTo 1 (bkD.nf 1)=2:=ex_taken.2;(iterate 2 refine U ?_);refine To.callF rfl rfl rfl rfl rfl rfl (by decide) (FnT.f ca29 rfl (Taken_c _ H7 bkD dA dlc dB dtc hD7.bk sD hG7 bkD_al 1 (by decide))) (fun v H8 hv=> ?_);obtain⟨le8,g32,rfl,⟨ng32,lg32⟩,mg32⟩:=hv;rw[e2];(iterate 8 refine U ?_);have tl8:=View.le_trans tl7 le8;have hD8:=hD7.le le8;have hE8:=hE7.le le8;have hO8:=hO7.le le8;have hG8:=glob_le hG tl8;refine U ?_;refine Tc.dropB (R':= [(1,.pointer (some ⟨b1,0,none⟩)),(2,.pointer (some ⟨b2,0,none⟩)),(3,g3.val),(4,.int .i64 0),(5,g5.val),(6,.int .i64 2),(7,.int .i64 0),(8,g8.val),(9,.int .i64 0),(10,g10.val),(11,.int .i64 0),(12,.int .i64 0),(13,strV [50,50]),(14,.int .i64 2),(15,.int .i64 0),(16,strV [49,49,50]),(17,.int .i64 (-1)),(18,.int .i64 0),(19,.int .i64 1),(20,.int .i64 1),(21,.int .i64 0),(22,.int .i64 0),(23,.int .i64 0),(24,.bool false),(25,.int .i64 0),(26,.pointer (some ⟨b26,0,none⟩)),(27,.int .i64 0),(28,.int .i64 2),(29,.int .i64 0),(30,.bool true),(31,.int .i64 0),(32,g32.val),(33,.int .i64 2),(34,.int .i64 0)]) (L':= [(b26,true,.cells ⟨(bkO.val oA olc oB otc).cells.toList⟩ 25 (0,0)),(b2,true,.cells ⟨(bkE.val eA elc eB etc).cells.toList⟩ 25 (0,0)),(b1,true,.cells ⟨(bkD.val dA dlc dB dtc).cells.toList⟩ 25 (0,0))]) ?_ ⟨rfl,rfl,rfl,rfl,rfl,rfl,rfl,rfl,rfl,rfl,rfl,rfl,rfl,rfl,rfl,rfl,rfl,rfl,rfl,rfl,rfl,rfl,rfl,rfl,rfl,rfl,rfl,rfl,rfl,rfl,rfl,rfl,rfl,rfl,trivial⟩ (by exact List.Sublist.refl _);(iterate 2 refine U ?_);refine To.callF rfl rfl rfl rfl rfl rfl (by decide) (FnT.f ca58 rfl (Slips_c _ H8 bkD dA dlc dB dtc hD8.bk sD hG8 bkD_al 0 (by decide))) (fun v H9 hv=> ?_);obtain⟨le9,g35,sm,rfl,⟨st1,st2⟩,⟨ng35,lg35⟩,mg35⟩:=hv;have e35:ddTo sm sm.length= [1,2]:=by rw[st1.len,ints_asc rfl st1 st2];exact ex_slips
 rw[e35] at ng35 lg35;(iterate 6 refine U ?_);have tl9:=View.le_trans tl8 le9;have hD9:=hD8.le le9;have hE9:=hE8.le le9;have hO9:=hO8.le le9;have hG9:=glob_le hG tl9;refine U ?_;refine Tc.dropB (R':= [(1,.pointer (some ⟨b1,0,none⟩)),(2,.pointer (some ⟨b2,0,none⟩)),(3,g3.val),(4,.int .i64 0),(5,g5.val),(6,.int .i64 2),(7,.int .i64 0),(8,g8.val),(9,.int .i64 0),(10,g10.val),(11,.int .i64 0),(12,.int .i64 0),(13,strV [50,50]),(14,.int .i64 2),(15,.int .i64 0),(16,strV [49,49,50]),(17,.int .i64 (-1)),(18,.int .i64 0),(19,.int .i64 1),(20,.int .i64 1),(21,.int .i64 0),(22,.int .i64 0),(23,.int .i64 0),(24,.bool false),(25,.int .i64 0),(26,.pointer (some ⟨b26,0,none⟩)),(27,.int .i64 0),(28,.int .i64 2),(29,.int .i64 0),(30,.bool true),(31,.int .i64 0),(32,g32.val),(33,.int .i64 2),(34,.int .i64 0),(35,g35.val),(36,.int .i64 0)]) (L':= [(b26,true,.cells ⟨(bkO.val oA olc oB otc).cells.toList⟩ 25 (0,0)),(b2,true,.cells ⟨(bkE.val eA elc eB etc).cells.toList⟩ 25 (0,0)),(b1,true,.cells ⟨(bkD.val dA dlc dB dtc).cells.toList⟩ 25 (0,0))]) ?_ ⟨rfl,rfl,rfl,rfl,rfl,rfl,rfl,rfl,rfl,rfl,rfl,rfl,rfl,rfl,rfl,rfl,rfl,rfl,rfl,rfl,rfl,rfl,rfl,rfl,rfl,rfl,rfl,rfl,rfl,rfl,rfl,rfl,rfl,rfl,rfl,rfl,trivial⟩ (by exact List.Sublist.refl _);(iterate 2 refine U ?_);refine .c rfl rfl rfl rfl (fun H hs=> .f ca52 rfl (isV (Safe_c _ H bkD dA dlc dB dtc (hD9.bk.le hs.base) sD (glob_le hG9 hs.base) [51] (by decide)) ex_safe3)) ?_;(iterate 7 refine U ?_);refine Tc.dropB (R':= [(1,.pointer (some ⟨b1,0,none⟩)),(2,.pointer (some ⟨b2,0,none⟩)),(3,g3.val),(4,.int .i64 0),(5,g5.val),(6,.int .i64 2),(7,.int .i64 0),(8,g8.val),(9,.int .i64 0),(10,g10.val),(11,.int .i64 0),(12,.int .i64 0),(13,strV [50,50]),(14,.int .i64 2),(15,.int .i64 0),(16,strV [49,49,50]),(17,.int .i64 (-1)),(18,.int .i64 0),(19,.int .i64 1),(20,.int .i64 1),(21,.int .i64 0),(22,.int .i64 0),(23,.int .i64 0),(24,.bool false),(25,.int .i64 0),(26,.pointer (some ⟨b26,0,none⟩)),(27,.int .i64 0),(28,.int .i64 2),(29,.int .i64 0),(30,.bool true),(31,.int .i64 0),(32,g32.val),(33,.int .i64 2),(34,.int .i64 0),(35,g35.val),(36,.int .i64 0),(37,.bool false),(38,.int .i64 0)]) (L':= [(b26,true,.cells ⟨(bkO.val oA olc oB otc).cells.toList⟩ 25 (0,0)),(b2,true,.cells ⟨(bkE.val eA elc eB etc).cells.toList⟩ 25 (0,0)),(b1,true,.cells ⟨(bkD.val dA dlc dB dtc).cells.toList⟩ 25 (0,0))]) ?_ ⟨rfl,rfl,rfl,rfl,rfl,rfl,rfl,rfl,rfl,rfl,rfl,rfl,rfl,rfl,rfl,rfl,rfl,rfl,rfl,rfl,rfl,rfl,rfl,rfl,rfl,rfl,rfl,rfl,rfl,rfl,rfl,rfl,rfl,rfl,rfl,rfl,rfl,rfl,trivial⟩ (by exact List.Sublist.refl _);(iterate 2 refine U ?_);refine .c rfl rfl rfl rfl (fun H hs=> .f ca52 rfl (isV (Safe_c _ H bkD dA dlc dB dtc (hD9.bk.le hs.base) sD (glob_le hG9 hs.base) [53] (by decide)) ex_safe5)) ?_;(iterate 7 refine U ?_);refine Tc.dropB (R':= [(1,.pointer (some ⟨b1,0,none⟩)),(2,.pointer (some ⟨b2,0,none⟩)),(3,g3.val),(4,.int .i64 0),(5,g5.val),(6,.int .i64 2),(7,.int .i64 0),(8,g8.val),(9,.int .i64 0),(10,g10.val),(11,.int .i64 0),(12,.int .i64 0),(13,strV [50,50]),(14,.int .i64 2),(15,.int .i64 0),(16,strV [49,49,50]),(17,.int .i64 (-1)),(18,.int .i64 0),(19,.int .i64 1),(20,.int .i64 1),(21,.int .i64 0),(22,.int .i64 0),(23,.int .i64 0),(24,.bool false),(25,.int .i64 0),(26,.pointer (some ⟨b26,0,none⟩)),(27,.int .i64 0),(28,.int .i64 2),(29,.int .i64 0),(30,.bool true),(31,.int .i64 0),(32,g32.val),(33,.int .i64 2),(34,.int .i64 0),(35,g35.val),(36,.int .i64 0),(37,.bool false),(38,.int .i64 0),(39,.bool true),(40,.int .i64 0)]) (L':= [(b26,true,.cells ⟨(bkO.val oA olc oB otc).cells.toList⟩ 25 (0,0)),(b2,true,.cells ⟨(bkE.val eA elc eB etc).cells.toList⟩ 25 (0,0)),(b1,true,.cells ⟨(bkD.val dA dlc dB dtc).cells.toList⟩ 25 (0,0))]) ?_ ⟨rfl,rfl,rfl,rfl,rfl,rfl,rfl,rfl,rfl,rfl,rfl,rfl,rfl,rfl,rfl,rfl,rfl,rfl,rfl,rfl,rfl,rfl,rfl,rfl,rfl,rfl,rfl,rfl,rfl,rfl,rfl,rfl,rfl,rfl,rfl,rfl,rfl,rfl,rfl,rfl,trivial⟩ (by exact List.Sublist.refl _);(iterate 2 refine U ?_);refine .c rfl rfl rfl rfl (fun H hs=> .f ca50 rfl (isV (Spare_c _ H bkD dA dlc dB dtc (hD9.bk.le hs.base) sD (glob_le hG9 hs.base) 1 true) ex_spare)) ?_;(iterate 9 refine U ?_);refine Tc.db (R':= [(1,.pointer (some ⟨b1,0,none⟩)),(2,.pointer (some ⟨b2,0,none⟩)),(3,g3.val),(4,.int .i64 0),(5,g5.val),(6,.int .i64 2),(7,.int .i64 0),(8,g8.val),(9,.int .i64 0),(10,g10.val),(11,.int .i64 0),(12,.int .i64 0),(13,strV [50,50]),(14,.int .i64 2),(15,.int .i64 0),(16,strV [49,49,50]),(17,.int .i64 (-1)),(18,.int .i64 0),(19,.int .i64 1),(20,.int .i64 1),(21,.int .i64 0),(22,.int .i64 0),(23,.int .i64 0),(24,.bool false),(25,.int .i64 0),(26,.pointer (some ⟨b26,0,none⟩)),(27,.int .i64 0),(28,.int .i64 2),(29,.int .i64 0),(30,.bool true),(31,.int .i64 0),(32,g32.val),(33,.int .i64 2),(34,.int .i64 0),(35,g35.val),(36,.int .i64 0),(37,.bool false),(38,.int .i64 0),(39,.bool true),(40,.int .i64 0),(41,strV [48]),(42,.bool true),(43,.int .i64 0)]) (L':= [(b26,true,.cells ⟨(bkO.val oA olc oB otc).cells.toList⟩ 25 (0,0)),(b2,true,.cells ⟨(bkE.val eA elc eB etc).cells.toList⟩ 25 (0,0)),(b1,true,.cells ⟨(bkD.val dA dlc dB dtc).cells.toList⟩ 25 (0,0))]) ?_;refine U ?_;refine .c rfl rfl rfl rfl (fun H hs=> .f ca67 rfl (isV (Pulses_c _ H [49,50,48] (by decide)) ex_pulses)) ?_;(iterate 7 refine U ?_);refine Tc.db (R':= [(1,.pointer (some ⟨b1,0,none⟩)),(2,.pointer (some ⟨b2,0,none⟩)),(3,g3.val),(4,.int .i64 0),(5,g5.val),(6,.int .i64 2),(7,.int .i64 0),(8,g8.val),(9,.int .i64 0),(10,g10.val),(11,.int .i64 0),(12,.int .i64 0),(13,strV [50,50]),(14,.int .i64 2),(15,.int .i64 0),(16,strV [49,49,50]),(17,.int .i64 (-1)),(18,.int .i64 0),(19,.int .i64 1),(20,.int .i64 1),(21,.int .i64 0),(22,.int .i64 0),(23,.int .i64 0),(24,.bool false),(25,.int .i64 0),(26,.pointer (some ⟨b26,0,none⟩)),(27,.int .i64 0),(28,.int .i64 2),(29,.int .i64 0),(30,.bool true),(31,.int .i64 0),(32,g32.val),(33,.int .i64 2),(34,.int .i64 0),(35,g35.val),(36,.int .i64 0),(37,.bool false),(38,.int .i64 0),(39,.bool true),(40,.int .i64 0),(41,strV [48]),(42,.bool true),(43,.int .i64 0),(44,.int .i64 13),(45,.int .i64 0)]) (L':= [(b26,true,.cells ⟨(bkO.val oA olc oB otc).cells.toList⟩ 25 (0,0)),(b2,true,.cells ⟨(bkE.val eA elc eB etc).cells.toList⟩ 25 (0,0)),(b1,true,.cells ⟨(bkD.val dA dlc dB dtc).cells.toList⟩ 25 (0,0))]) ?_;refine U ?_;refine .e (.bs (zz:=fun bw=> ?_));refine To.permL2 (L₁:= [(b26,true,.cells ⟨(bkO.val oA olc oB otc).cells.toList⟩ 25 (0,0)),(b2,true,.cells ⟨(bkE.val eA elc eB etc).cells.toList⟩ 25 (0,0)),(b1,true,.cells ⟨(bkD.val dA dlc dB dtc).cells.toList⟩ 25 (0,0))]++[(bw,true,.cells ⟨intsL [5,3,1]⟩ 3 (0,0))]) (by exact List.perm_append_comm) ?_;refine To.lift (L₂:= [(b26,true,.cells ⟨(bkO.val oA olc oB otc).cells.toList⟩ 25 (0,0)),(b2,true,.cells ⟨(bkE.val eA elc eB etc).cells.toList⟩ 25 (0,0)),(b1,true,.cells ⟨(bkD.val dA dlc dB dtc).cells.toList⟩ 25 (0,0))]) (L₁:= [(bw,true,.cells ⟨intsL [5,3,1]⟩ 3 (0,0))]) rfl (fun H10 hw=> ?_);have le10:=hw.base;have tl10:=View.le_trans tl9 le10;have hD10:=hD9.le le10;have hE10:=hE9.le le10;have hO10:=hO9.le le10;have hG10:=glob_le hG tl10;obtain⟨xc1,xc2,xc3,xc4,xc5⟩:=ex_cheap;have al5:(cheap (exAt [5,3,1]) 3 2 2).al=0:=by unfold ChSt.al;rw[xc4];rfl
 refine To.callF rfl rfl rfl rfl rfl rfl (by decide) (FnT.f ca53 rfl (Cheapest_c _ H10 (some ⟨bw,0,none⟩) 3 3 (exAt [5,3,1]) (ints_lit [5,3,1] (hw.get (i:=0) rfl)) 2 2 (by decide) xc2 (by decide) (by decide) xc1)) (fun v H11 hv=> ?_);obtain⟨le11,ca,cn,cc,rfl,cn1,cs1⟩:=hv;rw[xc5] at cn1 cs1;rw[xc3,al5];(iterate 8 refine U ?_);have tl11:=View.le_trans tl10 le11;have hD11:=hD10.le le11;have hE11:=hE10.le le11;have hO11:=hO10.le le11;have hG11:=glob_le hG tl11;(iterate 2 refine U ?_);refine Tc.dropB (R':= [(1,.pointer (some ⟨b1,0,none⟩)),(2,.pointer (some ⟨b2,0,none⟩)),(3,g3.val),(4,.int .i64 0),(5,g5.val),(6,.int .i64 2),(7,.int .i64 0),(8,g8.val),(9,.int .i64 0),(10,g10.val),(11,.int .i64 0),(12,.int .i64 0),(13,strV [50,50]),(14,.int .i64 2),(15,.int .i64 0),(16,strV [49,49,50]),(17,.int .i64 (-1)),(18,.int .i64 0),(19,.int .i64 1),(20,.int .i64 1),(21,.int .i64 0),(22,.int .i64 0),(23,.int .i64 0),(24,.bool false),(25,.int .i64 0),(26,.pointer (some ⟨b26,0,none⟩)),(27,.int .i64 0),(28,.int .i64 2),(29,.int .i64 0),(30,.bool true),(31,.int .i64 0),(32,g32.val),(33,.int .i64 2),(34,.int .i64 0),(35,g35.val),(36,.int .i64 0),(37,.bool false),(38,.int .i64 0),(39,.bool true),(40,.int .i64 0),(41,strV [48]),(42,.bool true),(43,.int .i64 0),(44,.int .i64 13),(45,.int .i64 0),(46,.slice ca cn cc),(47,.int .i64 18),(48,.int .i64 0)]) (L':= [(b26,true,.cells ⟨(bkO.val oA olc oB otc).cells.toList⟩ 25 (0,0)),(b2,true,.cells ⟨(bkE.val eA elc eB etc).cells.toList⟩ 25 (0,0)),(b1,true,.cells ⟨(bkD.val dA dlc dB dtc).cells.toList⟩ 25 (0,0))]) ?_ ⟨rfl,rfl,rfl,rfl,rfl,rfl,rfl,rfl,rfl,rfl,rfl,rfl,rfl,rfl,rfl,rfl,rfl,rfl,rfl,rfl,rfl,rfl,rfl,rfl,rfl,rfl,rfl,rfl,rfl,rfl,rfl,rfl,rfl,rfl,rfl,rfl,rfl,rfl,rfl,rfl,rfl,rfl,rfl,rfl,rfl,rfl,rfl,rfl,trivial⟩ (by exact List.Sublist.refl _);(iterate 72 refine U ?_);refine Tc.db (R':= [(1,.pointer (some ⟨b1,0,none⟩)),(2,.pointer (some ⟨b2,0,none⟩)),(3,g3.val),(4,.int .i64 0),(5,g5.val),(6,.int .i64 2),(7,.int .i64 0),(8,g8.val),(9,.int .i64 0),(10,g10.val),(11,.int .i64 0),(12,.int .i64 0),(13,strV [50,50]),(14,.int .i64 2),(15,.int .i64 0),(16,strV [49,49,50]),(17,.int .i64 (-1)),(18,.int .i64 0),(19,.int .i64 1),(20,.int .i64 1),(21,.int .i64 0),(22,.int .i64 0),(23,.int .i64 0),(24,.bool false),(25,.int .i64 0),(26,.pointer (some ⟨b26,0,none⟩)),(27,.int .i64 0),(28,.int .i64 2),(29,.int .i64 0),(30,.bool true),(31,.int .i64 0),(32,g32.val),(33,.int .i64 2),(34,.int .i64 0),(35,g35.val),(36,.int .i64 0),(37,.bool false),(38,.int .i64 0),(39,.bool true),(40,.int .i64 0),(41,strV [48]),(42,.bool true),(43,.int .i64 0),(44,.int .i64 13),(45,.int .i64 0),(46,.slice ca cn cc),(47,.int .i64 18),(48,.int .i64 0)]) (L':= [(b26,true,.cells ⟨(bkO.val oA olc oB otc).cells.toList⟩ 25 (0,0)),(b2,true,.cells ⟨(bkE.val eA elc eB etc).cells.toList⟩ 25 (0,0)),(b1,true,.cells ⟨(bkD.val dA dlc dB dtc).cells.toList⟩ 25 (0,0))]) ?_;have up:∀ {A B C:View},A.le B→B.le C→A.le C:=View.le_trans;have w3:=fun(H':View) (h':H11.le H') (bs:Nat) (k1:H' bs=some (true,.cells ⟨strsV [[49,50],[49,51]]⟩ 9 (0,0)))=> SameWords_c (Mp Tryz.prog) H' (g3.blk.map fun b=> ⟨b,0,none⟩) (some ⟨bs,0,none⟩) g3.n ([[49,50],[49,51]]:List (List UInt8)).length g3.cap ([[49,50],[49,51]]:List (List UInt8)).length _ _ (strs_of (g0:=g3) g3 (fun x hx=> h' _ _ ((up (up (up (up (up (up (up le4 le5) le6) le7) le8) le9) le10) le11) _ _ (mg3 x hx).1)) lg3 rfl rfl) (strs_lit [[49,50],[49,51]] k1) (by rw[ng3];decide) (by decide) true (words_true [[49,50],[49,51]] ng3);have w8:=fun(H':View) (h':H11.le H') (bs:Nat) (k1:H' bs=some (true,.cells ⟨strsV [[49,49,50],[50,50]]⟩ 9 (0,0)))=> SameWords_c (Mp Tryz.prog) H' (g8.blk.map fun b=> ⟨b,0,none⟩) (some ⟨bs,0,none⟩) g8.n ([[49,49,50],[50,50]]:List (List UInt8)).length g8.cap ([[49,49,50],[50,50]]:List (List UInt8)).length _ _ (strs_of (g0:=g8) g8 (fun x hx=> h' _ _ ((up (up (up (up (up le6 le7) le8) le9) le10) le11) _ _ (mg8 x hx).1)) lg8 rfl rfl) (strs_lit [[49,49,50],[50,50]] k1) (by rw[ng8];decide) (by decide) true (words_true [[49,49,50],[50,50]] ng8);have c5:=fun(H':View) (h':H11.le H') (bs:Nat) (k1:H' bs=some (true,.cells ⟨intsL [0,0,2]⟩ 38 (0,0)))=> claims_c (Mp Tryz.prog) H' (g5.blk.map fun b=> ⟨b,0,none⟩) (some ⟨bs,0,none⟩) g5.n ([0,0,2]:List Int).length g5.cap ([0,0,2]:List Int).length (fun i=> bkD.claimOf (i:Nat)) _ (by rw[ng5];exact cl_at g5 (fun x hx=> h' _ _ ((up (up (up (up (up (up le5 le6) le7) le8) le9) le10) le11) _ _ (mg5 x hx).1)) lg5 ng5) (ints_lit [0,0,2] k1) (by rw[ng5];decide) (by decide) true (by rw[ng5];rw[decide_eq_true (by rfl)];show(true&&allB _ 3)=true;rw[(allB_iff _).2 (three (decide_eq_true ex_clD.1.1) (decide_eq_true ex_clD.1.2.1) (decide_eq_true ex_clD.1.2.2))];rfl);have c10:=fun(H':View) (h':H11.le H') (bs:Nat) (k1:H' bs=some (true,.cells ⟨intsL [2,2,0]⟩ 38 (0,0)))=> claims_c (Mp Tryz.prog) H' (g10.blk.map fun b=> ⟨b,0,none⟩) (some ⟨bs,0,none⟩) g10.n ([2,2,0]:List Int).length g10.cap ([2,2,0]:List Int).length (fun i=> bkE.claimOf (i:Nat)) _ (by rw[ng10];exact cl_at g10 (fun x hx=> h' _ _ ((up (up (up (up le7 le8) le9) le10) le11) _ _ (mg10 x hx).1)) lg10 ng10) (ints_lit [2,2,0] k1) (by rw[ng10];decide) (by decide) true (by rw[ng10];rw[decide_eq_true (by rfl)];show(true&&allB _ 3)=true;rw[(allB_iff _).2 (three (decide_eq_true ex_clE.1.1) (decide_eq_true ex_clE.1.2.1) (decide_eq_true ex_clE.1.2.2))];rfl);(iterate 2 refine U ?_);refine .e (.bs (zz:=fun x1=> ?_));refine .c rfl rfl rfl rfl (fun H hs=> .f ca25 rfl (w3 H hs.base x1 (hs.get (i:=0) rfl))) ?_;(iterate 3 refine U ?_);refine .e (.bs (zz:=fun x2=> ?_));refine .c rfl rfl rfl rfl (fun H hs=> .f ca80 rfl (c5 H hs.base x2 (hs.get (i:=0) rfl))) ?_;(iterate 8 refine U ?_);refine .e (.bs (zz:=fun x3=> ?_));refine .c rfl rfl rfl rfl (fun H hs=> .f ca25 rfl (w8 H hs.base x3 (hs.get (i:=0) rfl))) ?_;(iterate 4 refine U ?_);refine .e (.bs (zz:=fun x4=> ?_));refine .c rfl rfl rfl rfl (fun H hs=> .f ca80 rfl (c10 H hs.base x4 (hs.get (i:=0) rfl))) ?_;(iterate 8 refine U ?_);refine .x (OpV.strB rfl rfl rfl (by exact rfl)) ?_;(iterate 7 refine U ?_);refine .x (OpV.strB rfl rfl rfl (by exact rfl)) ?_;(iterate 20 refine U ?_);refine Tc.db (R':= [(1,.pointer (some ⟨b1,0,none⟩)),(2,.pointer (some ⟨b2,0,none⟩)),(3,g3.val),(4,.int .i64 0),(5,g5.val),(6,.int .i64 2),(7,.int .i64 0),(8,g8.val),(9,.int .i64 0),(10,g10.val),(11,.int .i64 0),(12,.int .i64 0),(13,strV [50,50]),(14,.int .i64 2),(15,.int .i64 0),(16,strV [49,49,50]),(17,.int .i64 (-1)),(18,.int .i64 0),(19,.int .i64 1),(20,.int .i64 1),(21,.int .i64 0),(22,.int .i64 0),(23,.int .i64 0),(24,.bool false),(25,.int .i64 0),(26,.pointer (some ⟨b26,0,none⟩)),(27,.int .i64 0),(28,.int .i64 2),(29,.int .i64 0),(30,.bool true),(31,.int .i64 0),(32,g32.val),(33,.int .i64 2),(34,.int .i64 0),(35,g35.val),(36,.int .i64 0),(37,.bool false),(38,.int .i64 0),(39,.bool true),(40,.int .i64 0),(41,strV [48]),(42,.bool true),(43,.int .i64 0),(44,.int .i64 13),(45,.int .i64 0),(46,.slice ca cn cc),(47,.int .i64 18),(48,.int .i64 0)]) (L':= [(b26,true,.cells ⟨(bkO.val oA olc oB otc).cells.toList⟩ 25 (0,0)),(b2,true,.cells ⟨(bkE.val eA elc eB etc).cells.toList⟩ 25 (0,0)),(b1,true,.cells ⟨(bkD.val dA dlc dB dtc).cells.toList⟩ 25 (0,0))]) ?_;have c32:=fun(H':View) (h':H11.le H') (bs:Nat) (k1:H' bs=some (true,.cells ⟨intsL [2,0]⟩ 38 (0,0)))=> claims_c (Mp Tryz.prog) H' (g32.blk.map fun b=> ⟨b,0,none⟩) (some ⟨bs,0,none⟩) g32.n ([2,0]:List Int).length g32.cap ([2,0]:List Int).length (bkD.takenAt 1) _ (by rw[ng32];exact cl_at g32 (fun x hx=> h' _ _ ((up (up le9 le10) le11) _ _ (mg32 x hx).1)) lg32 ng32) (ints_lit [2,0] k1) (by rw[ng32];decide) (by decide) true (by rw[ng32];rw[decide_eq_true (by rfl)];show(true&&allB _ 2)=true;rw[(allB_iff _).2 (two (decide_eq_true ex_taken.1.1) (decide_eq_true ex_taken.1.2))];rfl);have n35:=fun(H':View) (h':H11.le H') (bs:Nat) (k1:H' bs=some (true,.cells ⟨intsL [1,2]⟩ 3 (0,0)))=> SameNums_eq (Mp Tryz.prog) H' (g35.blk.map fun b=> ⟨b,0,none⟩) (some ⟨bs,0,none⟩) 2 g35.cap 2 (exAt [1,2]) (exAt [1,2]) (cl_at g35 (fun x hx=> h' _ _ ((up le10 le11) _ _ (mg35 x hx).1)) (lg35.trans (clL_ints _)) ng35) (ints_lit [1,2] k1) (by decide) (fun _ _=> rfl);have w46:=fun(H':View) (h':H11.le H') (bs:Nat) (k1:H' bs=some (true,.cells ⟨strsV [[49],[50,49],[50,50]]⟩ 9 (0,0)))=> SameWords_c (Mp Tryz.prog) H' ca (some ⟨bs,0,none⟩) cn ([[49],[50,49],[50,50]]:List (List UInt8)).length cc ([[49],[50,49],[50,50]]:List (List UInt8)).length _ _ (strs_src (cs1.mono (View.le_trans (View.le_refl H11) h')) cn1) (strs_lit [[49],[50,49],[50,50]] k1) (by rw[cn1];decide) (by decide) true (words_true [[49],[50,49],[50,50]] cn1);rw[show g35.val=.slice (g35.blk.map fun b=> ⟨b,0,none⟩) 2 g35.cap by unfold Gl.val;rw[ng35];rfl];(iterate 12 refine U ?_);refine .e (.bs (zz:=fun y1=> ?_));refine .c rfl rfl rfl rfl (fun H hs=> .f ca80 rfl (c32 H hs.base y1 (hs.get (i:=0) rfl))) ?_;(iterate 7 refine U ?_);refine .e (.bs (zz:=fun y2=> ?_));refine .c rfl rfl rfl rfl (fun H hs=> .f ca62 rfl (n35 H hs.base y2 (hs.get (i:=0) rfl))) ?_;(iterate 10 refine U ?_);refine .x (OpV.strB rfl rfl rfl (by exact rfl)) ?_;(iterate 7 refine U ?_);refine .e (.bs (zz:=fun y3=> ?_));refine .c rfl rfl rfl rfl (fun H hs=> .f ca25 rfl (w46 H hs.base y3 (hs.get (i:=0) rfl))) ?_;(iterate 7 refine U ?_);refine .rt hK Tryz.func18 Tryz.results18 [_] ?_;exact fun H' hs=> ⟨View.le_trans tl11 hs.base,rfl⟩
set_option maxHeartbeats 16000000
section
variable(M:Md Tryz.prog)(H:View)
theorem HeardG_l(k:Bk)(A:Option Addr)(lc:Nat)(B:Option Addr)(tc:Nat)(hk:BkAt H k A lc B tc)(hn:k.small)(hG:Glob H)(ha:k.alarm=0):
   CallT M 23 #[k.val A lc B tc] H (fun v H'=> H.le H'∧∃(G:Option Addr) (n c:Nat),n=k.heardL.length∧v=.tuple ⟨[.slice G n c,.int .i64 0]⟩∧StrsAt H' G n (fun j=> k.heardL[j]?.getD [])):=
 CallT.mono (HeardG_c M H k A lc B tc hk hn hG ha) (by
   rintro v H' ⟨h1,g,rfl,⟨h2,h3⟩,h4⟩;have h5:=g.src (H:=H') (fun x hx=> (h4 x hx).1);rw[h3] at h5;exact⟨h1,g.blk.map (fun b=> ⟨b,0,none⟩),g.n,g.cap,h2,rfl,strs_src h5 h2⟩)
theorem Reaches_l(k:Bk)(A:Option Addr)(lc:Nat)(B:Option Addr)(tc:Nat)(hk:BkAt H k A lc B tc)(hn:k.small)(hG:Glob H)(ha:k.alarm=0):
   CallT M 26 #[k.val A lc B tc] H (fun v H'=> H.le H'∧∃(G:Option Addr) (c:Nat),v=.tuple ⟨[.slice G k.nl c,.int .i64 (k.claimOf (-1)),.int .i64 0]⟩∧FreeAt H' G k.nl (fun i=> k.claimOf (i:Nat))):=
 CallT.mono (Reaches_c M H k A lc B tc hk hn hG ha) (by
   rintro v H' ⟨h1,g,rfl,⟨h2,h3⟩,h4⟩;have hF:=cl_free g (fun x hx=> (h4 x hx).1) h3;rw[h2] at hF;refine⟨h1,g.blk.map (fun b=> ⟨b,0,none⟩),g.cap,?_,hF⟩;unfold reachV Gl.val;rw[h2])
end
theorem heard_len {k:Bk}(ha:k.alarm=0):k.heardL.length≤12 ^ 6:=by
 have h1:=nodup_le (l:=k.heardL) (m:=(k.earsL k.nt).map (·.heard)) (by unfold Bk.heardL;exact(ascOf_asc _).imp fun h e=> by subst e;have h2:=less_asym h;rw[h] at h2;cases h2) (fun x hx=> by unfold Bk.heardL at hx;exact(mem_ascOf _).1 hx);have h2:=ears_count ha;rw[List.length_map] at h1;omega
end Go.Proofs.YtdnfdeplcjaonaaGreatDoor
namespace Go.RL
open Go.Conc
def bytesV(s:List UInt8):List Value:=s.map fun b=> .int .u8 (b.toNat:Nat)
theorem bytesV_len(s:List UInt8):(bytesV s).length=s.length:=by simp[bytesV]
theorem bytesV_app(s t:List UInt8):bytesV (s++t)=bytesV s++bytesV t:=by simp[bytesV]
section
variable {P:Program}{E:Env P}{M:Md P}{n:Nat}{H₀:View}{R:Rg}{L L':Bl}{K:Rg→Bl→Prop}{o:Oper}{d:Nat}{v:Value}
theorem bytes_push(a:List UInt8)(b:UInt8):(ByteArray.mk ⟨a⟩).push b=ByteArray.mk ⟨a++[b]⟩:=by
 apply ByteArray.ext
 apply Array.ext'
 simp
theorem vwp_bytesLoop {H:View}{Q:ByteArray→View→Prop}(F:Value→ByteArray→Sem (ForInStep ByteArray))(hF:∀(b:UInt8) acc,F (.int .u8 (b.toNat:Nat)) acc=Sem.pure (.yield (acc.push b))):∀(s a:List UInt8),Q ⟨⟨a++s⟩⟩ H→vwp P (forIn (bytesV s) (ByteArray.mk ⟨a⟩) F) H Q
 | [],a,h=> by
   rw[List.append_nil] at h;exact h
 | b::s,a,h=> by
   show vwp P (forIn (Value.int .u8 (b.toNat:Nat)::bytesV s) (ByteArray.mk ⟨a⟩) F) H Q;rw[List.forIn_cons];refine vwp_bind _ _ ?_;rw[hF];show vwp P (forIn (bytesV s) ((ByteArray.mk ⟨a⟩).push b) F) H Q;rw[bytes_push];refine vwp_bytesLoop F hF s (a++[b]) ?_;rw[List.append_assoc];exact h
theorem vwp_bytesToString {H:View}{Q:Value→View→Prop}{y:Value}{m:Nat}{s:List UInt8}(h:SrcAt H 1 y m (bytesV s))(hq:Q (strV s) H):vwp P (Conv.bytesToString y) H Q:=by
 obtain⟨_,hl,⟨a,c,rfl,he⟩|⟨b,off,c,f,cs,e,fz,rfl,hb,hle,ht⟩⟩:=h
 · have:s= []:=by cases s with
     | nil=> rfl
     | cons _ _=> cases he
   subst this;have hm:m=0:=by simpa [bytesV] using hl.symm
   subst hm;cases a with
   | none=> exact hq
   | some a=> exact hq
 · have hm:m=(bytesV s).length:=by rw[hl,Nat.mul_one]
   unfold Conv.bytesToString;show vwp P ((loadCellsFrom ⟨b,off,none⟩ 0 m #[]).bind _) H Q;refine vwp_bind _ _ (vwp_loadCells b off hb m 0 #[] (by rw[hm];omega) ?_);rw[hm,Nat.add_zero,ht];refine vwp_bind _ _ ?_;simp only[Array.empty_append,List.forIn_toArray];exact vwp_bytesLoop _ (fun b acc=> by
     show(pure (ForInStep.yield (acc.push (UInt8.ofNat ((b.toNat:Nat):Int).toNat))):Sem (ForInStep ByteArray))=Sem.pure (ForInStep.yield (acc.push b));rw[Int.toNat_natCast,UInt8.ofNat_toNat];rfl) s [] hq
theorem OpV.convB {t u e:TypeId}{x:Operand}{yv:Value}{m:Nat}{s:List UInt8}{r re r':TyRow}(hop:o.op=.convert t u x)(hx:evR R x=some yv)(hsrc:∀H,SymSt H₀ L H→SrcAt H 1 yv m (bytesV s))(ht:E.ty t=some r)(hr:r.ds=.slice e)(hte:E.ty e=some re)(hre:re.ds=.int .u8)(ht':E.ty u=some r')(hr':r'.ds=.str):
   OpV P n H₀ R L o (strV s):=fun H tmps hs hrr=> by
 unfold execOp;rw[hop];simp only[hrr.ev hx];have h1:=hsrc H hs;obtain⟨⟨a,c,rfl⟩,_⟩:=h1;refine vwp_bind (convert t u (.slice a m c)) _ ?_;unfold convert;refine vwp_bind (underlying t) _ (vwp_underlying (ds_slice ((E.ok _ _ ht).ds.trans hr)) (vwp_bind (underlying u) _ (vwp_underlying (ds_str ((E.ok _ _ ht').ds.trans hr')) ?_)));refine vwp_bind (underlying e) _ (vwp_underlying (ds_int ((E.ok _ _ hte).ds.trans hre)) ?_);exact vwp_bytesToString (hsrc H hs) ⟨rfl,rfl⟩
end
end Go.RL
namespace Go.Proofs.YtdnfdeplcjaonaaGreatDoor
open Go.RL
set_option maxRecDepth 10000
set_option maxHeartbeats 16000000
theorem begins_sub {s p:List UInt8}{t:Bool}(h:p.length≤s.length)(ht:begins s p=t):RL.strB .eql ((s.drop (0:Int).toNat).take (((p.length:Nat):Int).toNat-(0:Int).toNat)) p=some (.bool t):=by
 rw[←ht];unfold begins RL.strB;simp[h]
def PicksAt(H:View)(F:Option Addr)(n:Nat)(x:Nat→Nat):Prop:=
 n=0∨∃b o f gs gt gz,F=some ⟨b,o,none⟩∧H b=some (f,.cells ⟨gs⟩ gt gz)∧∀j:Nat,j<n→ldL false 1 gs (o+(j:Int).toNat*1)=some (.int .u16 (x j:Nat))∧x j<65536
theorem PicksAt.le {H H':View}{F:Option Addr}{n:Nat}{x:Nat→Nat}(h:PicksAt H F n x)(k:H.le H'):PicksAt H' F n x:=
 h.imp id fun⟨b,o,f,gs,gt,gz,h1,h2,h3⟩=> ⟨b,o,f,gs,gt,gz,h1,k _ _ h2,h3⟩
def choiceOf(n:Nat)(x:Nat→Nat)(i:Nat):Nat:=if i<n then x i else 0
theorem Bk.earTo_deaf {k:Bk}{p q:Nat→Int}{i:Nat}(h:(k.earTo p q i).deaf=true):∀n,i≤n→k.earTo p q n=k.earTo p q i:=by
 intro n hn;induction n with
 | zero=> rw[show i=0 by omega]
 | succ n ih=>
   rcases Nat.eq_or_lt_of_le hn with e|e
   · rw[e]
   · have h1:=ih (by omega);show(k.earTo p q n).hear _ _=_;rw[h1,Ear.deaf_on h]
theorem dig_one {m:Nat}(h:1≤m∧m≤10):([49,50,51,52,53,54,55,56,57,48]:List UInt8)[m-1]? =some (digB m):=by
 have:∀n:Nat,n<10→([49,50,51,52,53,54,55,56,57,48]:List UInt8)[n]? =some (digB (n+1)):=by decide
 have h2:=this (m-1) (by omega);rw[show m-1+1=m by omega] at h2;exact h2
section
variable(M:Md Tryz.prog)(H:View)
theorem Choice_c(A:Option Addr)(n ac:Nat)(x:Nat→Nat)(hA:PicksAt H A n x)(i:Nat):
   CallT M 55 #[.slice A n ac,.int .i64 (i:Nat)] H (fun v H'=> H.le H'∧v=.int .i64 (choiceOf n x i:Nat)):=by
 by_cases c1:i<n
 · obtain h0|⟨ab,ao,f,gs,gt,gz,rfl,hb,hl⟩:=hA
   · omega
   obtain⟨f1,f2⟩:=hl i c1;have f3:IntKind.i64.wrap ((x i:Nat):Int)=((x i:Nat):Int):=wrap64 (by omega) (by omega);rw[show choiceOf n x i=x i from if_pos c1];refine .en Tryz.func55 Tryz.ntmps55 fun St c cs hK=> ?_;(iterate 27 refine U ?_);refine .rt hK Tryz.func55 Tryz.results55 [_] ?_;exact okB
 · rw[show choiceOf n x i=0 from if_neg c1];refine .en Tryz.func55 Tryz.ntmps55 fun St c cs hK=> ?_;(iterate 21 refine U ?_);refine .rt hK Tryz.func55 Tryz.results55 [_] ?_;exact okB
theorem called_c(k:Bk)(A:Option Addr)(lc:Nat)(B:Option Addr)(tc:Nat)(hA:RowsAt H k A lc)(hn:k.nl≤1000)(s:List UInt8):
   CallT M 41 #[k.val A lc B tc,strV s] H (fun v H'=> H.le H'∧v=.int .i64 (firstI (k.line s))):=by
 unfold Bk.line;refine .en Tryz.func41 Tryz.ntmps41 fun St c cs hK=> ?_;(iterate 2 refine U ?_);refine .e (.bx (zz:=fun b2=> ?_));(iterate 8 refine U ?_);refine Tc.db (Tc.loopInv (σ:= { i:Nat//i≤k.nl∧firstTo (fun i=> begins s (k.num i)) i=none }) (fun i=> ([(1,strV s),(2,.pointer (some ⟨b2,0,none⟩)),(5,.int .i64 (i.1:Nat))],[(b2,true,.cells ⟨(k.val A lc B tc).cells.toList⟩ 25 (0,0))])) (fun i=> k.nl-i.1) ?_ ⟨0,Nat.zero_le _,rfl⟩);rintro⟨i,hi,hno⟩ ih;show Tc M St _ _ _ _ [(1,strV s),(2,.pointer (some ⟨b2,0,none⟩)),(5,.int .i64 (i:Nat))] [(b2,true,.cells ⟨(k.val A lc B tc).cells.toList⟩ 25 (0,0))] _ _;by_cases c5:i=k.nl
 · clear ih;subst c5;rw[hno] at hK;(iterate 15 refine U ?_);refine .rt hK Tryz.func41 Tryz.results41 [_] ?_;exact okB
 · have c6:i<k.nl:=by omega
   obtain⟨hlc,h0|⟨ab,ao,f,gs,gt,gz,rfl,hb,hl⟩⟩:=hA
   · omega
   obtain⟨F,fc,f1,_,_⟩:=hl i c6;have f2:ldL false 1 gs (ao+((i:Nat):Int).toNat*3+1)=some (strV (k.num i)):=ldL_cell f1 (by decide);clear f1;by_cases c7:(k.num i).length≤s.length
   · cases q:begins s (k.num i) with
     | true=>
       have f3:=begins_sub c7 q;rw[firstTo_stays (j:=i+1) (x:=i) (by simp[firstTo,hno,q]) _ (by omega)] at hK;(iterate 21 refine U ?_);refine .x (OpV.lenS (E:=en) rfl rfl rfl rfl rfl rfl rfl) ?_;(iterate 3 refine U ?_);refine Tc.dr [] [] mixed rfl ?_;refine .q 0 rfl .mv ?_;refine .q 1 rfl .mv ?_;refine .q 2 rfl (OpV.lenS (E:=en) rfl rfl rfl rfl rfl rfl rfl) ?_;refine .q 3 rfl (.it (zz:=leq_t (by omega))) ?_;refine .q 4 rfl .mv ?_;refine .q 5 rfl .mv ?_;refine .q 6 rfl .mv ?_;refine .q 7 rfl (OpV.sliceS (E:=en) rfl rfl rfl rfl rfl rfl (by omega) (by omega) (by omega)) ?_;refine .q 8 rfl .fa ?_;refine .q 9 rfl (.ld 0) ?_;refine .q 10 rfl .mv ?_;refine .q 11 rfl .ia ?_;refine .q 12 rfl .fa ?_;refine .q 13 rfl .l0 ?_;refine .q 14 rfl (OpV.strB rfl rfl rfl (by assumption)) ?_;refine .q 15 rfl .pk ?_;refine Ta.done (by kernel_rfl) ?_;(iterate 6 refine U ?_);refine .rt hK Tryz.func41 Tryz.results41 [_] ?_;exact okB
     | false=>
       have f3:=begins_sub c7 q;(iterate 21 refine U ?_);refine .x (OpV.lenS (E:=en) rfl rfl rfl rfl rfl rfl rfl) ?_;(iterate 3 refine U ?_);refine Tc.dr [] [] mixed rfl ?_;refine .q 0 rfl .mv ?_;refine .q 1 rfl .mv ?_;refine .q 2 rfl (OpV.lenS (E:=en) rfl rfl rfl rfl rfl rfl rfl) ?_;refine .q 3 rfl (.it (zz:=leq_t (by omega))) ?_;refine .q 4 rfl .mv ?_;refine .q 5 rfl .mv ?_;refine .q 6 rfl .mv ?_;refine .q 7 rfl (OpV.sliceS (E:=en) rfl rfl rfl rfl rfl rfl (by omega) (by omega) (by omega)) ?_;refine .q 8 rfl .fa ?_;refine .q 9 rfl (.ld 0) ?_;refine .q 10 rfl .mv ?_;refine .q 11 rfl .ia ?_;refine .q 12 rfl .fa ?_;refine .q 13 rfl .l0 ?_;refine .q 14 rfl (OpV.strB rfl rfl rfl (by assumption)) ?_;refine .q 15 rfl .pk ?_;refine Ta.done (by kernel_rfl) ?_;(iterate 8 refine U ?_);exact Tc.db (ih ⟨i+1,by omega,by simp[firstTo,hno,q]⟩ (by simp only;omega))
   · have q:begins s (k.num i)=false:=by unfold begins;simp[c7]
     (iterate 21 refine U ?_);refine .x (OpV.lenS (E:=en) rfl rfl rfl rfl rfl rfl rfl) ?_;(iterate 3 refine U ?_);refine Tc.dr [] [] mixed rfl ?_;refine .q 0 rfl .mv ?_;refine .q 1 rfl .mv ?_;refine .q 2 rfl (OpV.lenS (E:=en) rfl rfl rfl rfl rfl rfl rfl) ?_;refine .q 3 rfl (.it (zz:=leq_f (by omega))) ?_;refine .q 4 rfl .mv ?_;refine Ta.ps 5 (by kernel_rfl) rfl rfl rfl (by decide) rfl rfl ?_;refine Ta.ps 6 (by kernel_rfl) rfl rfl rfl (by decide) rfl rfl ?_;refine Ta.ps 7 (by kernel_rfl) rfl rfl rfl (by decide) rfl rfl ?_;refine Ta.ps 8 (by kernel_rfl) rfl rfl rfl (by decide) rfl rfl ?_;refine Ta.ps 9 (by kernel_rfl) rfl rfl rfl (by decide) rfl rfl ?_;refine Ta.ps 10 (by kernel_rfl) rfl rfl rfl (by decide) rfl rfl ?_;refine Ta.ps 11 (by kernel_rfl) rfl rfl rfl (by decide) rfl rfl ?_;refine Ta.ps 12 (by kernel_rfl) rfl rfl rfl (by decide) rfl rfl ?_;refine Ta.ps 13 (by kernel_rfl) rfl rfl rfl (by decide) rfl rfl ?_;refine Ta.ps 14 (by kernel_rfl) rfl rfl rfl (by decide) rfl rfl ?_;refine .q 15 rfl .pk ?_;refine Ta.done (by kernel_rfl) ?_;(iterate 8 refine U ?_);exact Tc.db (ih ⟨i+1,by omega,by simp[firstTo,hno,q]⟩ (by simp only;omega))
theorem earsD_c(k:Bk)(A:Option Addr)(lc:Nat)(B:Option Addr)(tc:Nat)(hok:k.trainsOk)(P Q:Option Addr)(n pc qc:Nat)(p q:Nat→Int)(hP:FreeAt H P n p)(hQ:FreeAt H Q n q)(hn:n≤k.nt)(h6:k.nt≤6)(hin:∀i,i<n→k.inAt p q i=true):
   CallT M 40 #[k.val A lc B tc,.slice P n pc,.slice Q n qc] H (fun v H'=> H.le H'∧v=strV (k.earTo p q n).heard):=by
 refine .en Tryz.func40 Tryz.ntmps40 fun St c cs hK=> ?_;(iterate 2 refine U ?_);refine .e (.bx (zz:=fun b3=> ?_));(iterate 16 refine U ?_);refine Tc.db (Tc.loopInv (σ:= { x:Nat×Gl 5 1//x.1≤n∧(k.earTo p q x.1).deaf=false∧x.2.l=bytesV (k.earTo p q x.1).heard }) (fun x=> ([(1,.slice P n pc),(2,.slice Q n qc),(3,.pointer (some ⟨b3,0,none⟩)),(7,x.1.2.val),(8,.int .i64 ((k.earTo p q x.1.1).pend:Nat)),(9,.int .i64 (x.1.1:Nat))],(b3,true,.cells ⟨(k.val A lc B tc).cells.toList⟩ 25 (0,0))::x.1.2.bl)) (fun x=> n-x.1.1) ?_ ⟨(0,Gl.nil 5 1),Nat.zero_le _,rfl,rfl⟩);rintro⟨⟨i,g⟩,hi,hde,hgl⟩ ih;simp only at hi hde hgl;show Tc M St _ _ _ _ [(1,.slice P n pc),(2,.slice Q n qc),(3,.pointer (some ⟨b3,0,none⟩)),(7,g.val),(8,.int .i64 ((k.earTo p q i).pend:Nat)),(9,.int .i64 (i:Nat))] ((b3,true,.cells ⟨(k.val A lc B tc).cells.toList⟩ 25 (0,0))::g.bl) _ _;have hbd:=Bk.earTo_bd hok (p:=p) (q:=q) (i:=i) (by omega) (fun j hj=> hin j (by omega));have hgn:g.n=(k.earTo p q i).heard.length:=by
   have:=g.hl;rw[hgl,bytesV_len] at this;omega
 by_cases c1:i=n
 · clear ih;subst c1;(iterate 13 refine U ?_);refine .x (OpV.convB (E:=en) (m:=g.n) (s:=(k.earTo p q i).heard) rfl rfl (fun H hs=> hgl▸g.src (fun x hx=> hs.at_ x (List.mem_cons_of_mem _ hx))) rfl rfl rfl rfl rfl rfl) ?_;(iterate 2 refine U ?_);refine .rt hK Tryz.func40 Tryz.results40 [_] ?_;exact okB
 · have c2:i<n:=by omega
   obtain h0|⟨pb,po,pf,ps,pt,pz,rfl,hpb,hpl⟩:=hP
   · omega
   obtain h0|⟨qb,qo,qf,qs,qt,qz,rfl,hqb,hql⟩:=hQ
   · omega
   have f1:=hpl i c2;have f2:=hql i c2;have hii:=hin i c2;unfold Bk.inAt at hii;simp only[Bool.and_eq_true,decide_eq_true_eq] at hii;have htr:=k.train_in hok (i:=i) (by omega);have hsum:(((k.earTo p q i).pend:Nat):Int)+p i=(((k.earTo p q i).pend+(p i).toNat:Nat):Int):=by omega
   have hnext:k.earTo p q (i+1)=(k.earTo p q i).hear (p i).toNat (k.kind (q i)):=rfl;by_cases c3:q i<k.gap
   · have hk:k.kind (q i)=0:=if_pos c3;have hx:k.earTo p q (i+1)=⟨(k.earTo p q i).heard,(k.earTo p q i).pend+(p i).toNat,false⟩:=by rw[hnext,hk];unfold Ear.hear;rw[hde];rfl
     (iterate 24 refine U ?_);refine Tc.dr [] [] mixed rfl ?_;refine .q 0 rfl .mv ?_;refine .q 1 rfl .mv ?_;refine .q 2 rfl .ia ?_;refine .q 3 rfl .l0 ?_;refine .q 4 rfl .fa ?_;refine .q 5 rfl (.ld 0) ?_;refine .q 6 rfl (.it (zz:=lss_t (by omega))) ?_;refine Ta.done (by kernel_rfl) ?_;(iterate 2 refine U ?_);rw[show(((k.earTo p q i).pend:Nat):Int)+p i=((k.earTo p q (i+1)).pend:Nat) by rw[hx];exact hsum];(iterate 5 refine U ?_);exact Tc.db (ih ⟨(i+1,g),by simp only;omega,by simp only;rw[hx],by simp only;rw[hx,hgl]⟩ (by simp only;omega))
   · have hk:k.kind (q i)=if q i<k.give then 1 else 2:=if_neg c3
     by_cases c4:10<(k.earTo p q i).pend+(p i).toNat
     · have hx:k.earTo p q (i+1)=⟨(k.earTo p q i).heard,0,true⟩:=by
         rw[hnext];unfold Ear.hear;rw[hde,if_neg (by decide),if_neg (by rw[hk];split <;> decide),if_pos c4]
       have hend:=Bk.earTo_deaf (k:=k) (p:=p) (q:=q) (i:=i+1) (by rw[hx]) n (by omega);rw[hend,hx] at hK;(iterate 24 refine U ?_);refine Tc.dr [] [] mixed rfl ?_;refine .q 0 rfl .mv ?_;refine .q 1 rfl .mv ?_;refine .q 2 rfl .ia ?_;refine .q 3 rfl .l0 ?_;refine .q 4 rfl .fa ?_;refine .q 5 rfl (.ld 0) ?_;refine .q 6 rfl (.it (zz:=lss_f (by omega))) ?_;refine Ta.done (by kernel_rfl) ?_;(iterate 13 refine U ?_);refine .x (OpV.convB (E:=en) (m:=g.n) (s:=(k.earTo p q i).heard) rfl rfl (fun H hs=> hgl▸g.src (fun x hx=> hs.at_ x (List.mem_cons_of_mem _ hx))) rfl rfl rfl rfl rfl rfl) ?_;(iterate 2 refine U ?_);refine .rt hK Tryz.func40 Tryz.results40 [_] ?_;exact okB
     · have f3:([49,50,51,52,53,54,55,56,57,48]:List UInt8)[((((k.earTo p q i).pend:Nat):Int)+p i-1).toNat]? =some (digB ((k.earTo p q i).pend+(p i).toNat)):=by
         rw[show((((k.earTo p q i).pend:Nat):Int)+p i-1).toNat=(k.earTo p q i).pend+(p i).toNat-1 by omega];exact dig_one (by omega)
       have hx:k.earTo p q (i+1)=⟨(k.earTo p q i).heard++[digB ((k.earTo p q i).pend+(p i).toNat)],0,decide (k.kind (q i)=2)⟩:=by
         rw[hnext];unfold Ear.hear;rw[hde,if_neg (by decide),if_neg (by rw[hk];split <;> decide),if_neg c4]
       by_cases c5:q i<k.give
       · have hk1:k.kind (q i)=1:=by rw[hk,if_pos c5]
         rw[hk1] at hx;(iterate 24 refine U ?_);refine Tc.dr [] [] mixed rfl ?_;refine .q 0 rfl .mv ?_;refine .q 1 rfl .mv ?_;refine .q 2 rfl .ia ?_;refine .q 3 rfl .l0 ?_;refine .q 4 rfl .fa ?_;refine .q 5 rfl (.ld 0) ?_;refine .q 6 rfl (.it (zz:=lss_f (by omega))) ?_;refine Ta.done (by kernel_rfl) ?_;(iterate 15 refine U ?_);refine .x (OpV.indexS (E:=en) rfl rfl rfl rfl rfl (by omega) (by assumption)) ?_;refine .e (.bs (zz:=fun bs=> ?_));refine .e (Or.append (E:=en) (g:=g) (m:=1) (new:= [.int .u8 ((digB ((k.earTo p q i).pend+(p i).toNat)).toNat:Nat)]) (yv:=.slice (some ⟨bs,0,none⟩) 1 1) 2 rfl rfl rfl rfl rfl rfl rfl rfl rfl rfl rfl rfl rfl rfl rfl (fun H hs=> SrcAt.of (hs.get (i:=0) rfl) (Nat.le_of_ble_eq_true rfl)) rfl (by omega) rfl (by decide) (fun g2 hn2 hl2=> ?_));(iterate 4 refine U ?_);refine Tc.dr [] [] mixed rfl ?_;refine .q 0 rfl .mv ?_;refine .q 1 rfl .mv ?_;refine .q 2 rfl .ia ?_;refine .q 3 rfl .l0 ?_;refine .q 4 rfl .fa ?_;refine .q 5 rfl (.ld 1) ?_;refine .q 6 rfl (.it (zz:=geq_f (by omega))) ?_;refine Ta.done (by kernel_rfl) ?_;(iterate 11 refine U ?_);have ih2:=ih ⟨(i+1,g2),by simp only;omega,by simp only;rw[hx];rfl,by simp only;rw[hx,hl2,hgl];exact(bytesV_app (k.earTo p q i).heard [digB ((k.earTo p q i).pend+(p i).toNat)]).symm⟩ (by simp only;omega);dsimp only at ih2
         rw[hx] at ih2;exact Tc.db (ih2)
       · have hk2:k.kind (q i)=2:=by rw[hk,if_neg c5]
         rw[hk2] at hx;have hend:=Bk.earTo_deaf (k:=k) (p:=p) (q:=q) (i:=i+1) (by rw[hx];rfl) n (by omega);rw[hend,hx] at hK;(iterate 24 refine U ?_);refine Tc.dr [] [] mixed rfl ?_;refine .q 0 rfl .mv ?_;refine .q 1 rfl .mv ?_;refine .q 2 rfl .ia ?_;refine .q 3 rfl .l0 ?_;refine .q 4 rfl .fa ?_;refine .q 5 rfl (.ld 0) ?_;refine .q 6 rfl (.it (zz:=lss_f (by omega))) ?_;refine Ta.done (by kernel_rfl) ?_;(iterate 15 refine U ?_);refine .x (OpV.indexS (E:=en) rfl rfl rfl rfl rfl (by omega) (by assumption)) ?_;refine .e (.bs (zz:=fun bs=> ?_));refine .e (Or.append (E:=en) (g:=g) (m:=1) (new:= [.int .u8 ((digB ((k.earTo p q i).pend+(p i).toNat)).toNat:Nat)]) (yv:=.slice (some ⟨bs,0,none⟩) 1 1) 2 rfl rfl rfl rfl rfl rfl rfl rfl rfl rfl rfl rfl rfl rfl rfl (fun H hs=> SrcAt.of (hs.get (i:=0) rfl) (Nat.le_of_ble_eq_true rfl)) rfl (by omega) rfl (by decide) (fun g2 hn2 hl2=> ?_));(iterate 4 refine U ?_);refine Tc.dr [] [] mixed rfl ?_;refine .q 0 rfl .mv ?_;refine .q 1 rfl .mv ?_;refine .q 2 rfl .ia ?_;refine .q 3 rfl .l0 ?_;refine .q 4 rfl .fa ?_;refine .q 5 rfl (.ld 1) ?_;refine .q 6 rfl (.it (zz:=geq_t (by omega))) ?_;refine Ta.done (by kernel_rfl) ?_;(iterate 3 refine U ?_);have hg2:g2.l=bytesV ((k.earTo p q i).heard++[digB ((k.earTo p q i).pend+(p i).toNat)]):=by rw[hl2,hgl];exact(bytesV_app (k.earTo p q i).heard [digB ((k.earTo p q i).pend+(p i).toNat)]).symm
         (iterate 2 refine U ?_);refine .x (OpV.convB (E:=en) (m:=g2.n) (s:=(k.earTo p q i).heard++[digB ((k.earTo p q i).pend+(p i).toNat)]) rfl rfl (fun H hs=> hg2▸g2.src (fun x hx=> hs.at_ x (List.mem_cons_of_mem _ (List.mem_cons_of_mem _ hx)))) rfl rfl rfl rfl rfl rfl) ?_;(iterate 2 refine U ?_);refine .rt hK Tryz.func40 Tryz.results40 [_] ?_;exact okB
end
end Go.Proofs.YtdnfdeplcjaonaaGreatDoor
namespace Go.Proofs.YtdnfdeplcjaonaaGreatDoor
open Go.RL Go.ChangeShapes Go.WideShapes Go.ChangeAt Go.RowKit
set_option maxRecDepth 100000
section
variable {H:Type}{enc:TypeId×Value→H}{W:World}
theorem wf_u16 {n:Int}(h:(Lit.int .u16 n).wf=true):0≤n∧n≤65535:=by
 have e1:IntKind.u16.min=0:=by kernel_rfl
 have e2:IntKind.u16.max=65535:=by kernel_rfl
 simp only[Lit.wf,Bool.and_eq_true,decide_eq_true_eq,e1,e2] at h;omega
theorem trod_picks {n:Nat}{cs:List Value}{y:DataW H×List MemPlace}(h:DataW.trod enc Tryz.prog W 0 (fun _=> true) true n 56 cs=some y):
   ∃(F:Option Addr) (m fc:Nat) (x:Nat→Nat),cs= [.slice F m fc]∧PicksAt (fullV W) F m x:=by
 rcases open_ints (by kernel_rfl:Tryz.prog.underlying 56=some (.slice 73)) (by kernel_rfl:Tryz.prog.underlying 73=some (.int .u16)) (by kernel_rfl:Tryz.prog.cellsOf 73=1) h with ⟨h1,_⟩|⟨a',len,cap,zs,h1,_,h3,h4,h5,_,h7,h8⟩
 · exact⟨none,0,0,fun _=> 0,h1,.inl rfl⟩
 · simp only[if_true] at h5;refine⟨some a',len,cap,fun j=> (zs.getD j 0).toNat,h1,?_⟩;cases len with
   | zero=> exact .inl rfl
   | succ m=>
     obtain⟨ab,ao,spt⟩:=a';have h0:=h7 0 (by omega);have hsp:spt=none:=by simpa [Addr.add] using World.cell?_spot h0
     subst hsp;obtain⟨cs',gt,gz,e1,_⟩:=cells_of h0;have e1':W.heap[ab]? =some (.cells cs' gt gz):=by simpa [Addr.add] using e1
     refine .inr ⟨ab,ao,false,cs'.toList,gt,gz,rfl,by simp only[fullV,e1',Option.map_some],fun j hj=> ?_⟩;have hw:0≤zs.getD j 0∧zs.getD j 0≤65535:=by
       rw[List.getD_eq_getElem?_getD,List.getElem?_eq_getElem (by omega),Option.getD_some];exact wf_u16 (h8 _ (List.getElem_mem _))
     have h9:=h7 j (by omega);rw[add_at] at h9;obtain⟨cs2,gt',gz',e2,e3⟩:=cells_of h9;rw[e1'] at e2;cases e2
     refine⟨?_,by show(zs.getD j 0).toNat<65536;omega⟩;show cs'.toList[ao+(j:Int).toNat*1]? =some (.int .u16 (((zs.getD j 0).toNat:Nat):Int));rw[Int.toNat_natCast,Nat.mul_one,Array.getElem?_toList,e3,Int.toNat_of_nonneg hw.1]
theorem open_picks {base:Nat}{v:Value}(hv:Value.okWide Tryz.prog W .any base 56 v)(h:∃d q,DataW.Trod enc Tryz.prog W 0 (fun _=> true) true 56 v d q):
   ∃(F:Option Addr) (m fc:Nat) (x:Nat→Nat),v=.slice F m fc∧PicksAt (fullV W) F m x:=by
 have hv':∃F m fc,v=.slice F m fc:=by
   unfold Value.okWide Cell.okWide Cell.ok at hv;rw[show Tryz.prog.underlying 56=some (.slice 73) by kernel_rfl] at hv;cases v with
   | slice a b c=> exact⟨a,b,c,rfl⟩
   | _=> exact hv.elim
 obtain⟨F0,m0,c0,rfl⟩:=hv';obtain⟨d,q,n,h⟩:=h;obtain⟨F,m,fc,x,hx,h1⟩:=trod_picks h;have hcs:(Value.slice F0 m0 c0).cells.toList= [.slice F0 m0 c0]:=rfl;rw[hcs] at hx;exact⟨F,m,fc,x,(List.cons.inj hx).1,h1⟩
end
end Go.Proofs.YtdnfdeplcjaonaaGreatDoor
namespace Go.Proofs.YtdnfdeplcjaonaaGreatDoor
open Go.RL
set_option maxRecDepth 10000
set_option maxHeartbeats 8000000
section
variable(M:Md Tryz.prog)(H:View)
theorem Pick_c(a b:Int)(ha:0≤a∧a≤b∧b≤1000000)(p:Int)(hp:0≤p∧p≤1000000):CallT M 73 #[bandV a b,.int .i64 p] H (fun v H'=> H.le H'∧v=.int .i64 (a+p%(b-a+1))):=by
 have e1:intBin .rem .i64 p (b-a+1)=some (.int .i64 (p%(b-a+1))):=rem_in (by omega) (by omega);have h1:=Int.emod_nonneg p (show b-a+1≠0 by omega);have h2:=Int.emod_lt_of_pos p (show 0<b-a+1 by omega);refine .en Tryz.func73 Tryz.ntmps73 fun St c cs hK=> ?_;(iterate 2 refine U ?_);refine .e (.bx (zz:=fun b1=> ?_));(iterate 3 refine U ?_);refine Tc.dr [] [] mixed rfl ?_;refine .q 0 rfl .fa ?_;refine .q 1 rfl (.ld 0) ?_;refine .q 2 rfl .mv ?_;refine .q 3 rfl .fa ?_;refine .q 4 rfl (.ld 0) ?_;refine .q 5 rfl .fa ?_;refine .q 6 rfl (.ld 0) ?_;refine .q 7 rfl (.it (zz:=sub_in (by omega) (by omega))) ?_;refine .q 8 rfl (.it (zz:=add_in (by omega) (by omega))) ?_;refine .q 9 rfl (.it (zz:=(by assumption))) ?_;refine .q 10 rfl (.it (zz:=add_in (by omega) (by omega))) ?_;refine .q 11 rfl .sg ?_;refine Ta.done (by kernel_rfl) ?_;refine .rt hK Tryz.func73 Tryz.results73 [_] ?_;exact okB
end
end Go.Proofs.YtdnfdeplcjaonaaGreatDoor
namespace Go.RL
section
variable {P:Program}{E:Env P}{M:Md P}{n:Nat}{H₀:View}{R:Rg}{L:Bl}{K:Rg→Bl→Prop}{o:Oper}{d:Nat}
theorem Or.appendAmid(k:Nat)(T:Bl→Bl){Y:Bl}(hT:∀B,(T B).Perm (Y++B)){cl:Go.Call}{x y:Operand}{t xt e:TypeId}{sz m:Nat}{yv:Value}{new:List Value}{g:Gl e sz}{r re rx:TyRow}{ex:TypeId}(hop:o.op=.call cl)(hcl:cl.callee=.builtin .append)(hat:cl.argTypes=#[t,xt])(har:cl.args=#[x,y])
   (hx:evR R x=some g.val) (hy:evR R y=some yv) (ht:E.ty t=some r) (hds:r.ds=.slice e) (hre:E.ty e=some re) (hsz:re.size=sz) (hzs:Nat.beq re.zero.cells.toList.length sz=true) (hxt:E.ty xt=some rx) (hex:rx.ds=.slice ex) (hby:Nat.ble re.bytes 1000=true)
   (hL:L.drop k=T g.bl) (hsrc:∀H,SymSt H₀ L H→SrcAt H sz yv m new) (hs:new.all single=true) (hm:g.n+m≤1000000000) (hd:o.dst=some d) (hn:d<n)
   (hk:∀g':Gl e sz,g'.n=g.n+m→g'.l=g.l++new→K ((d,g'.val)::R) (L.take k++T g'.bl)):Or M n H₀ R L o K:=
 .val hd hn fun H tmps hst hr=> by
   have hLe:L=L.take k++T g.bl:=by rw[←hL,List.take_append_drop]
   unfold execOp;rw[hop];simp only[resolve,hcl,hat,har];have hm':Array.map (evT tmps) #[x,y]=#[g.val,yv]:=by simp[hr.ev hx,hr.ev hy]
   rw[hm'];have hp:∀B,((L.take k++Y)++B).Perm (L.take k++T B):=fun B=> by rw[List.append_assoc];exact(List.Perm.refl _).append (hT B).symm
   have hst0:=hst;rw[hLe] at hst0;have hst2:SymSt H₀ ((L.take k++Y)++g.bl) H:=hst0.perm (hp g.bl);refine vwp_bind (Builtin.append_ #[t,xt] o.type #[g.val,yv]) _ ?_;refine vwp_append ht hds hre hsz (Nat.eq_of_beq_eq_true hzs) ⟨rx,ex,hxt,hex⟩ (Nat.le_of_ble_eq_true hby) hm (fun z hz=> hst2.at_ z (by simp[hz])) (hsrc H hst) hs fun g' H' h1 h2 h3 h4 h5=> ?_;exact⟨_,rfl,_,(hst2.grown h3 h4 h5).perm (hp g'.bl).symm,hk g' h1 h2⟩
theorem in_one(Y:Bl):∀B:Bl,(B++Y).Perm (Y++B):=fun _=> List.perm_append_comm
end
end Go.RL
namespace Go.Proofs.YtdnfdeplcjaonaaGreatDoor
open Go.RL
set_option maxRecDepth 10000
set_option maxHeartbeats 16000000
section
variable(M:Md Tryz.prog)(H:View)
end
def Bk.pickP(k:Bk)(n:Nat)(x:Nat→Nat)(i:Nat):Int:=k.pf i+((choiceOf n x (2*i):Nat):Int)%(k.pt i-k.pf i+1)
def Bk.pickQ(k:Bk)(n:Nat)(x:Nat→Nat)(i:Nat):Int:=k.qf i+((choiceOf n x (2*i+1):Nat):Int)%(k.qt i-k.qf i+1)
theorem pick_in {a b:Int}(h:a≤b)(z:Nat):a≤a+(z:Int)%(b-a+1)∧a+(z:Int)%(b-a+1)≤b:=by
 have h1:=Int.emod_nonneg (z:Int) (show b-a+1≠0 by omega);have h2:=Int.emod_lt_of_pos (z:Int) (show 0<b-a+1 by omega);omega
theorem pick_inAt {k:Bk}(hok:k.trainsOk)(n:Nat)(x:Nat→Nat){i:Nat}(hi:i<k.nt):k.inAt (k.pickP n x) (k.pickQ n x) i=true:=by
 obtain⟨h1,h2,h3⟩:=k.train_in hok hi;unfold Bk.inAt Bk.pickP Bk.pickQ;rw[Bool.and_eq_true,decide_eq_true_eq,decide_eq_true_eq];exact⟨pick_in (by omega) _,pick_in (by omega) _⟩
theorem choice_lt {H:View}{A:Option Addr}{n:Nat}{x:Nat→Nat}(h:PicksAt H A n x)(i:Nat):choiceOf n x i<65536:=by
 unfold choiceOf;split
 · rcases h with h|⟨b,o,f,gs,gt,gz,rfl,h1,h2⟩
   · omega
   · exact(h2 i (by assumption)).2
 · decide
theorem frees_of {H:View}(g:Gl 3 1)(h:∀z∈g.bl,H z.1=some z.2){n:Nat}{f:Nat→Int}(hn:g.n=n)(hl:g.l=clL f n):FreeAt H (g.blk.map fun b=> ⟨b,0,none⟩) n f:=by
 cases hb:g.blk with
 | none=>
   have h0:=g.h0 hb;have h1:=g.hc;left
   omega
 | some b=>
   have h1:=h (b,true,.cells ⟨g.l++g.junk⟩ 3 (0,0)) (by unfold Gl.bl;rw[hb];exact List.mem_singleton.2 rfl);refine .inr ⟨b,0,_,_,_,_,rfl,h1,fun j hj=> ?_⟩;show(g.l++g.junk)[_]? =_;rw[hl,show 0+(j:Int).toNat*1=j by omega,List.getElem?_append_left (by unfold clL;simp;exact hj)];unfold clL;rw[List.getElem?_map,List.getElem?_range hj];rfl
section
variable(M:Md Tryz.prog)(H:View)
theorem Dialled_c(k:Bk)(A:Option Addr)(lc:Nat)(B:Option Addr)(tc:Nat)(hB:TrainsAt H k B tc)(hok:k.trainsOk)(h6:k.nt≤6)(X:Option Addr)(n xc:Nat)(x:Nat→Nat)(hX:PicksAt H X n x):
   CallT M 39 #[k.val A lc B tc,.slice X n xc] H (fun v H'=> H.le H'∧∃P pc Q qc,v=.tuple ⟨[.slice P k.nt pc,.slice Q k.nt qc]⟩∧FreeAt H' P k.nt (k.pickP n x)∧FreeAt H' Q k.nt (k.pickQ n x)∧(k.nt≤pc∧k.nt≤qc)∧(k.nt=0→(P=none∧pc=0)∧Q=none∧qc=0)):=by
 refine .en Tryz.func39 Tryz.ntmps39 fun St c cs hK=> ?_;(iterate 2 refine U ?_);refine .e (.bx (zz:=fun b2=> ?_));(iterate 14 refine U ?_);refine Tc.db (Tc.loopInv (σ:= { y:Nat×Gl 3 1×Gl 3 1//y.1≤k.nt∧(y.2.1.n=y.1∧y.2.1.l=clL (k.pickP n x) y.1)∧(y.2.2.n=y.1∧y.2.2.l=clL (k.pickQ n x) y.1)∧(y.1=0→y.2.1=Gl.nil 3 1∧y.2.2=Gl.nil 3 1) }) (fun y=> ([(1,.slice X n xc),(2,.pointer (some ⟨b2,0,none⟩)),(6,y.1.2.1.val),(7,y.1.2.2.val),(8,.int .i64 (y.1.1:Nat))],(b2,true,.cells ⟨(k.val A lc B tc).cells.toList⟩ 25 (0,0))::(y.1.2.1.bl++y.1.2.2.bl))) (fun y=> k.nt-y.1.1) ?_ ⟨(0,Gl.nil 3 1,Gl.nil 3 1),Nat.zero_le _,⟨rfl,rfl⟩,⟨rfl,rfl⟩,fun _=> ⟨rfl,rfl⟩⟩);rintro⟨⟨i,g1,g2⟩,hi,⟨n1,l1⟩,⟨n2,l2⟩,hz⟩ ih;simp only at hi n1 l1 n2 l2 hz;show Tc M St _ _ _ _ [(1,.slice X n xc),(2,.pointer (some ⟨b2,0,none⟩)),(6,g1.val),(7,g2.val),(8,.int .i64 (i:Nat))] ((b2,true,.cells ⟨(k.val A lc B tc).cells.toList⟩ 25 (0,0))::(g1.bl++g2.bl)) _ _;by_cases c1:i=k.nt
 · clear ih;subst c1;(iterate 18 refine U ?_);refine .rt hK Tryz.func39 Tryz.results39 [_,_] ?_;exact fun H' hs=> ⟨hs.base,_,g1.cap,_,g2.cap,by rw[show packV [g1.val,g2.val]=.tuple ⟨[.slice (g1.blk.map fun b=> ⟨b,0,none⟩) g1.n g1.cap,.slice (g2.blk.map fun b=> ⟨b,0,none⟩) g2.n g2.cap]⟩ from rfl,n1,n2],frees_of g1 (fun z hz=> hs.at_ z (List.mem_cons_of_mem _ (List.mem_append_left _ hz))) n1 l1,frees_of g2 (fun z hz=> hs.at_ z (List.mem_cons_of_mem _ (List.mem_append_right _ hz))) n2 l2,⟨by have:=g1.hc;omega,by have:=g2.hc;omega⟩,fun h0=> by obtain⟨e1,e2⟩:=hz h0;rw[e1,e2];exact⟨⟨rfl,rfl⟩,rfl,rfl⟩⟩
 · have c2:i<k.nt:=by omega
   have hch:∀(j:Nat) (z:Int),z=(j:Nat)→∀H',H.le H'→CallT M 55 #[.slice X n xc,.int .i64 z] H' (fun v H''=> H'.le H''∧v=.int .i64 (choiceOf n x j:Nat)):=fun j z e H' h=> by rw[e];exact Choice_c M H' X n xc x (hX.le h) j
   have hlt0:=choice_lt hX (2*i);have hlt1:=choice_lt hX (2*i+1);obtain⟨htc,h0|⟨tb,to,tf,ts,tt,tz,rfl,htb,htl⟩⟩:=hB
   · omega
   have f1:=htl i c2;obtain⟨t1,t2,t3⟩:=k.train_in hok c2;(iterate 20 refine U ?_);refine .e (.al (zz:=fun b9=> ?_));refine .e (.st 0 (zz:=?_));(iterate 2 refine U ?_);refine Tc.drT [9] [] [] 2 mixed rfl ?_;refine Ta.tkC 0 (by kernel_rfl) rfl rfl (by decide) rfl rfl (OpV.take .mv) ?_;refine Ta.tkC 1 (by kernel_rfl) rfl rfl (by decide) rfl rfl (OpV.take .fa) ?_;refine Ta.tkC 2 (by kernel_rfl) rfl rfl (by decide) rfl rfl (OpV.take (.ld 0)) ?_;refine Ta.tkC 3 (by kernel_rfl) rfl rfl (by decide) rfl rfl (OpV.take .mv) ?_;refine Ta.tkC 4 (by kernel_rfl) rfl rfl (by decide) rfl rfl (OpV.take .mv) ?_;refine Ta.tkC 5 (by kernel_rfl) rfl rfl (by decide) rfl rfl (OpV.take (.it (zz:=mul_in (by omega) (by omega)))) ?_;refine Ta.tkC 6 (by kernel_rfl) rfl rfl (by decide) rfl rfl (OpV.takeCall rfl rfl rfl rfl (fun H hs=> .f ca55 rfl (hch (2*i) _ (by omega) H hs.base))) ?_;refine Ta.tkC 7 (by kernel_rfl) rfl rfl (by decide) rfl rfl (OpV.takeCall rfl rfl rfl rfl (fun H hs=> .f ca73 rfl (Pick_c M H (k.pf i) (k.pt i) (by omega) (choiceOf n x (2*i):Nat) (by omega)))) ?_;refine Ta.each [8] (by kernel_rfl) rfl ⟨TaOp.mk rfl rfl rfl (.bs (zz:=fun bs=> ⟨S3.mk (by apply List.Sublist.cons;exact List.sublist_append_left _ _) (.inr (by apply List.Sublist.cons;exact List.Sublist.refl _)),?_⟩)),trivial⟩;refine Ta.each [9] (by kernel_rfl) rfl ⟨TaOp.mk rfl rfl rfl (Or.appendAmid (E:=en) (g:=g1) (m:=1) (new:= [.int .i64 (k.pickP n x i)]) (yv:=.slice (some ⟨bs,0,none⟩) 1 1) 3 (fun B=> B++g2.bl) (in_one _) rfl rfl rfl rfl rfl rfl rfl rfl rfl rfl rfl rfl rfl rfl rfl (fun H hs=> SrcAt.of (hs.get (i:=0) rfl) (Nat.le_of_ble_eq_true rfl)) rfl (by omega) rfl (by decide) (fun a1 m1 q1=> ⟨S3.mk (by apply List.Sublist.cons;exact List.sublist_append_left _ _) (.inl (by kernel_rfl)),?_⟩)),trivial⟩;refine Ta.tkwC 10 (by kernel_rfl) rfl rfl rfl (by decide) rfl rfl (OpV.take .sg) ?_;refine Ta.done (by kernel_rfl) ?_;refine Tc.drT [10] [] [] 3 mixed rfl ?_;refine Ta.tkC 0 (by kernel_rfl) rfl rfl (by decide) rfl rfl (OpV.take .mv) ?_;refine Ta.tkC 1 (by kernel_rfl) rfl rfl (by decide) rfl rfl (OpV.take .fa) ?_;refine Ta.tkC 2 (by kernel_rfl) rfl rfl (by decide) rfl rfl (OpV.take (.ld 1)) ?_;refine Ta.tkC 3 (by kernel_rfl) rfl rfl (by decide) rfl rfl (OpV.take .mv) ?_;refine Ta.tkC 4 (by kernel_rfl) rfl rfl (by decide) rfl rfl (OpV.take .mv) ?_;refine Ta.tkC 5 (by kernel_rfl) rfl rfl (by decide) rfl rfl (OpV.take (.it (zz:=mul_in (by omega) (by omega)))) ?_;refine Ta.tkC 6 (by kernel_rfl) rfl rfl (by decide) rfl rfl (OpV.take (.it (zz:=add_in (by omega) (by omega)))) ?_;refine Ta.tkC 7 (by kernel_rfl) rfl rfl (by decide) rfl rfl (OpV.takeCall rfl rfl rfl rfl (fun H hs=> .f ca55 rfl (hch (2*i+1) _ (by omega) H hs.base))) ?_;refine Ta.tkC 8 (by kernel_rfl) rfl rfl (by decide) rfl rfl (OpV.takeCall rfl rfl rfl rfl (fun H hs=> .f ca73 rfl (Pick_c M H (k.qf i) (k.qt i) (by omega) (choiceOf n x (2*i+1):Nat) (by omega)))) ?_;refine Ta.each [9] (by kernel_rfl) rfl ⟨TaOp.mk rfl rfl rfl (.bs (zz:=fun bt=> ⟨S3.mk (by apply List.Sublist.cons;exact List.sublist_append_left _ _) (.inr (by apply List.Sublist.cons;exact List.Sublist.refl _)),?_⟩)),trivial⟩;refine Ta.each [10] (by kernel_rfl) rfl ⟨TaOp.mk rfl rfl rfl (Or.appendAmid (E:=en) (g:=g2) (m:=1) (new:= [.int .i64 (k.pickQ n x i)]) (yv:=.slice (some ⟨bt,0,none⟩) 1 1) 4 (fun B=> a1.bl++B) (fun _=> List.Perm.refl _) rfl rfl rfl rfl rfl rfl rfl rfl rfl rfl rfl rfl rfl rfl rfl (fun H hs=> SrcAt.of (hs.get (i:=0) rfl) (Nat.le_of_ble_eq_true rfl)) rfl (by omega) rfl (by decide) (fun a2 m2 q2=> ⟨S3.mk (by apply List.Sublist.cons;exact List.sublist_append_left _ _) (.inl (by kernel_rfl)),?_⟩)),trivial⟩;refine Ta.tkwC 11 (by kernel_rfl) rfl rfl rfl (by decide) rfl rfl (OpV.take .sg) ?_;refine Ta.done (by kernel_rfl) ?_;(iterate 6 refine U ?_);exact Tc.db (ih ⟨(i+1,a1,a2),by simp only;omega,⟨by simp only;rw[m1,n1],by simp only;rw[q1,l1,clL_succ]⟩,⟨by simp only;rw[m2,n2],by simp only;rw[q2,l2,clL_succ]⟩,fun h=> absurd h (Nat.succ_ne_zero i)⟩ (by simp only;omega))
end
theorem kind_mono(k:Bk){a b:Int}(h:a≤b):k.kind a≤k.kind b:=by
 have c1:=kind_cases k a;have c2:=kind_cases k b;omega
theorem earTo_in {k:Bk}(hok:k.trainsOk){p q:Nat→Int}:∀ {n:Nat},n≤k.nt→(∀i,i<n→k.inAt p q i=true)→k.earsS n (k.earTo p q n)
 | 0,_,_=> rfl
 | n+1,hn,h=> by
   have h1:=earTo_in hok (p:=p) (q:=q) (n:=n) (by omega) (fun i hi=> h i (by omega));have h2:=h n (by omega);unfold Bk.inAt at h2;rw[Bool.and_eq_true,decide_eq_true_eq,decide_eq_true_eq] at h2;obtain⟨t1,t2,t3⟩:=k.train_in hok (i:=n) (by omega);refine⟨_,h1,((p n).toNat,k.kind (q n)),?_,rfl⟩;unfold Bk.can;rw[mem_canL];exact⟨⟨by simp only;omega,by simp only;omega⟩,kind_mono k h2.2.1,kind_mono k h2.2.2⟩
section
variable(M:Md Tryz.prog)(H:View)
end
theorem settled_in {k:Bk}{n:Nat}{f:Int}(h:k.settled=some (n,f)):n≤k.nt∧k.fateAt n=some f∧∀i,i<n→k.fateAt i=none:=by
 obtain⟨h1,h2,h3⟩:=settledTo_some h;exact⟨by omega,h2,h3⟩
theorem fate_first {k:Bk}{e:Ear}{over:Bool}{f:Int}(hf:f≠ -2)(h:k.fate e over=f):firstI (k.line e.heard)=f:=by
 unfold Bk.fate at h;cases hl:k.line e.heard with
 | some i=> rw[hl] at h;exact h
 | none=>
   rw[hl] at h;simp only at h;split at h
   · exact h
   · exact absurd h.symm hf
theorem fate_over {k:Bk}{e:Ear}:k.fate e true=firstI (k.line e.heard):=by
 unfold Bk.fate;cases k.line e.heard with
 | some i=> rfl
 | none=> simp;rfl
theorem line_bd(k:Bk)(s:List UInt8): -1≤firstI (k.line s)∧firstI (k.line s)<k.nl:=by
 cases h:k.line s with
 | none=> exact⟨by decide,by show(-1:Int)<_;omega⟩
 | some i=>
   have:=firstTo_in k.nl h;exact⟨by show(-1:Int)≤(i:Nat);omega,by show((i:Nat):Int)<_;omega⟩
theorem claim_sole {k:Bk}{z:Int}:k.claimOf z=1↔k.resL= [z]:=by
 unfold Bk.claimOf;constructor
 · intro h;by_cases c1:z∈k.resL
   · rw[if_pos c1] at h;by_cases c2:k.resL.length=1
     · obtain⟨w,hw⟩:=List.length_eq_one_iff.1 c2;rw[hw,List.mem_singleton] at c1;rw[hw,c1]
     · rw[if_neg c2] at h;cases h
   · rw[if_neg c1] at h;cases h
 · intro h;rw[h,if_pos (List.mem_singleton.2 rfl)];rfl
theorem res_same {k:Bk}(hok:k.trainsOk){f:Int}(h:∀e,k.earsS k.nt e→firstI (k.line e.heard)=f):k.claimOf f=1:=by
 have hall:∀z∈k.resL,z=f:=fun z hz=> by
   obtain⟨e,he,rfl⟩:=(k.mem_resL z).1 hz;exact h e he
 have h1:=res_pos hok;have h2:k.resL.length≤1:=nodup_le (l:=k.resL) (m:= [f]) (distinct_nodup _) (fun z hz=> List.mem_singleton.2 (hall z hz));obtain⟨w,hw⟩:=List.length_eq_one_iff.1 (show k.resL.length=1 by omega);have h3:=hall w (by rw[hw];exact List.mem_singleton.2 rfl);exact claim_sole.2 (by rw[hw,h3])
def Bk.sureTo(k:Bk):Nat→Bool
 | 0=> decide (k.claimOf (-1)=1)
 | i+1=> k.sureTo i||decide (k.claimOf (i:Nat)=1)
theorem sure_some {k:Bk}:∀ {n:Nat},k.sureTo n=true→∃z,k.claimOf z=1∧ -1≤z
 | 0,h=> ⟨-1,of_decide_eq_true h,by decide⟩
 | n+1,h=> by
   rcases Bool.or_eq_true_iff.1 h with h|h
   · exact sure_some h
   · exact⟨(n:Nat),of_decide_eq_true h,by omega⟩
theorem sure_none {k:Bk}(h:k.claimOf (-1)=1):∀n,k.sureTo n=true
 | 0=> decide_eq_true h
 | n+1=> by show(_||_)=true;rw[sure_none h n];rfl
theorem sure_line {k:Bk}{i:Nat}(h:k.claimOf (i:Nat)=1):∀n,i<n→k.sureTo n=true
 | 0,hi=> by omega
 | n+1,hi=> by
   show(_||_)=true;by_cases c:i=n
   · subst c;rw[decide_eq_true h,Bool.or_true]
   · rw[sure_line h n (by omega)];rfl
theorem settled_all {k:Bk}(ha:k.alarm=0){n:Nat}{f:Int}(h:k.settled=some (n,f)):f≠ -2∧(∀m,n≤m→m≤k.nt→∀e,k.earsS m e→firstI (k.line e.heard)=f)∧ -1≤f∧f<k.nl:=by
 obtain⟨h1,h2,_⟩:=settled_in h;obtain⟨h3,h4⟩:=Bk.fateAt_all h2;have h5:=all_on ha h3 h4;have hall:∀m,n≤m→m≤k.nt→∀e,k.earsS m e→firstI (k.line e.heard)=f:=fun m hm hm2 e he=> fate_first h3 (h5 m hm hm2 e he);obtain⟨e,he⟩:=k.ears_some (Bk.valid ha).2.2.2 k.nt (Nat.le_refl _);have h6:=hall k.nt h1 (Nat.le_refl _) e he;exact⟨h3,hall,h6▸line_bd k e.heard⟩
theorem sure_is {k:Bk}(ha:k.alarm=0):k.sureTo k.nl=k.settled.isSome:=by
 obtain⟨_,_,_,hok⟩:=Bk.valid ha;cases hs:k.settled with
 | some x=>
   obtain⟨n,f⟩:=x;obtain⟨_,h2,h3,h4⟩:=settled_all ha hs;have h5:=res_same hok (fun e he=> h2 k.nt (settled_in hs).1 (Nat.le_refl _) e he);by_cases c:f= -1
   · subst c;exact sure_none h5 _
   · have:f=((f.toNat:Nat):Int):=by omega
     rw[this] at h5;exact sure_line h5 _ (by omega)
 | none=>
   cases hb:k.sureTo k.nl with
   | false=> rfl
   | true=>
     exfalso
     obtain⟨z,hz,hz2⟩:=sure_some hb;have hr:=claim_sole.1 hz;obtain⟨e0,he0⟩:=k.ears_some hok k.nt (Nat.le_refl _);have h1:k.fateAt k.nt=some z:=Bk.fateAt_some (by omega) he0 (fun e he=> by
       rw[decide_eq_true rfl,fate_over];have:=(k.mem_resL _).2 ⟨e,he,rfl⟩;rw[hr,List.mem_singleton] at this;exact this)
     obtain⟨n',f',h2,_⟩:=settledTo_le h1 (j:=k.nt+1) (by omega);have h3:k.settled=some (n',f'):=h2;rw[hs] at h3;cases h3
def Bk.first(k:Bk)(m:Nat):Bk:= { k with nt:=m }
theorem first_ears(k:Bk)(m:Nat):∀n e,(k.first m).earsS n e↔k.earsS n e
 | 0,_=> Iff.rfl
 | n + 1,e=> by
   constructor
   · rintro⟨e0,h1,h2⟩;exact⟨e0,(first_ears k m n e0).1 h1,h2⟩
   · rintro⟨e0,h1,h2⟩;exact⟨e0,(first_ears k m n e0).2 h1,h2⟩
theorem first_valid {k:Bk}(ha:k.alarm=0){m:Nat}(hm:m≤k.nt):(k.first m).alarm=0:=by
 obtain⟨h1,h2,h3⟩:=Bk.alarm0 ha;obtain⟨_,_,hnt,_⟩:=Bk.valid ha;have h4:(k.first m).trainsA=0:=by
   unfold Bk.trainsA at h3 ⊢;rw[if_neg (show ¬6<(k.first m).nt by show ¬6<m;omega)];rw[if_neg (by omega)] at h3;have h5:firstTo k.trainBad k.nt=none:=by
     cases h:firstTo k.trainBad k.nt with
     | none=> rfl
     | some z=> rw[h] at h3;cases h3
   have h6:firstTo (k.first m).trainBad (k.first m).nt=none:=(firstTo_none m).2 fun i hi=> (firstTo_none k.nt).1 h5 i (by omega);rw[h6];rfl
 show(if k.pausesA=0 then if k.linesA=0 then(k.first m).trainsA else k.linesA else k.pausesA)=0;rw[if_pos h1,if_pos h2,h4]
theorem first_heard {k:Bk}{m:Nat}{s:List UInt8}:s∈(k.first m).heardL↔∃e,k.earsS m e∧s=e.heard:=by
 rw[heard_mem];constructor
 · rintro⟨e,h1,h2⟩;exact⟨e,(first_ears k m m e).1 h1,h2⟩
 · rintro⟨e,h1,h2⟩;exact⟨e,(first_ears k m m e).2 h1,h2⟩
def allTo(K:Nat→Int):Nat→Bool
 | 0=> decide (0≤K 0)
 | i+1=> allTo K i&&decide (K i=K 0)
theorem allTo_true {K:Nat→Int}:∀ {n:Nat},allTo K n=true→0≤K 0∧∀i,i<n→K i=K 0
 | 0,h=> ⟨of_decide_eq_true h,fun i hi=> by omega⟩
 | n+1,h=> by
   obtain⟨h1,h2⟩:=Bool.and_eq_true_iff.1 h;obtain⟨h3,h4⟩:=allTo_true h1;refine⟨h3,fun i hi=> ?_⟩;by_cases c:i=n
   · subst c;exact of_decide_eq_true h2
   · exact h4 i (by omega)
theorem early_no {k:Bk}(ha:k.alarm=0){n m:Nat}{f:Int}(h:k.settled=some (n,f))(hm:m<n):allTo (fun j=> firstI (k.line ((k.first m).heardL[j]?.getD []))) (k.first m).heardL.length=false:=by
 cases hb:allTo (fun j=> firstI (k.line ((k.first m).heardL[j]?.getD []))) (k.first m).heardL.length with
 | false=> rfl
 | true=>
   exfalso
   obtain⟨hn,_,h3⟩:=settled_in h;obtain⟨h1,h2⟩:=allTo_true hb;obtain⟨_,_,_,hok⟩:=Bk.valid ha;obtain⟨e0,he0⟩:=k.ears_some hok m (by omega);have g1:0≤firstI (k.line ((k.first m).heardL[0]?.getD [])):=h1;have g2:∀i,i<(k.first m).heardL.length→firstI (k.line ((k.first m).heardL[i]?.getD []))=firstI (k.line ((k.first m).heardL[0]?.getD [])):=h2;clear h1 h2 hb;generalize firstI (k.line ((k.first m).heardL[0]?.getD []))=K at g1 g2;have h4:∀e,k.earsS m e→k.fate e (decide (m=k.nt))=K:=fun e he=> by
     obtain⟨i,hi,hie⟩:=List.getElem_of_mem (first_heard.2 ⟨e,he,rfl⟩);have h5:=g2 i hi;rw[List.getElem?_eq_getElem hi,Option.getD_some,hie] at h5;cases hl:k.line e.heard with
     | none=> rw[hl] at h5;have:(-1:Int)=K:=h5;omega
     | some w=> rw[hl] at h5;rw[fate_line hl];exact h5
   have h6:=Bk.fateAt_some (f:=K) (by omega) he0 h4;rw[h3 m hm] at h6;cases h6
theorem To.permL {P:Program}{M:Md P}{St:View→Goroutine→Prop}{n:Nat}{b:FB}{H₀:View}{cs:List Frame}{R:Rg}{L L₁:Bl}{ds:List Deferred}{dl:List (Option Tmp)}{l:List Oper}{k:List Item}(p:L₁.Perm L)(h:To M St n b H₀ cs dl R L₁ ds l k):To M St n b H₀ cs dl R L ds l k:=
 fun arr ix h1 h2 H tmps hs hr=> h arr ix h1 h2 H tmps (hs.perm p) hr
theorem first_trains(k:Bk)(m:Nat){H:View}(g:Gl 47 4)(h:∀x∈g.bl,H x.1=some x.2)(hn:g.n=m)(hl:g.l=flatR m (trainL k)):TrainsAt H (k.first m) (g.blk.map fun b=> ⟨b,0,none⟩) g.cap:=by
 refine⟨by have:=g.hc;show m≤_;omega,?_⟩;have hs:=g.src h;rw[hl] at hs;rcases Nat.eq_zero_or_pos m with h0|h0
 · exact .inl h0
 · have hs':SrcAt H 4 (.slice (g.blk.map fun b=> ⟨b,0,none⟩) m g.cap) m (flatR m (trainL k)):=by
     have:=hs;unfold Gl.val at this;rw[hn] at this;exact this
   obtain⟨b,o,f,gs,gt,gz,h1,h2,h3⟩:=src_row (f:=trainL k) (sz:=4) (fun _=> rfl) hs' h0 (by decide);exact .inr ⟨b,o,f,gs,gt,gz,h1,h2,fun i hi=> h3 i hi⟩
theorem first_src(k:Bk)(m:Nat){H:View}{b o c:Nat}{f:Bool}{gs:List Value}{gt:TypeId}{gz:Nat×Nat}(hb:H b=some (f,.cells ⟨gs⟩ gt gz))(hm:m≤k.nt)(h:∀i:Nat,i<k.nt→ldL true 4 gs (o+(i:Int).toNat*4)=some (trainV (k.pf i) (k.pt i) (k.qf i) (k.qt i))):SrcAt H 4 (.slice (some ⟨b,o,none⟩) m c) m (flatR m (trainL k)):=by
 rcases Nat.eq_zero_or_pos m with h0|h0
 · rw[h0];exact⟨⟨_,_,rfl⟩,rfl,.inl ⟨_,_,rfl,rfl⟩⟩
 · refine rows_src (by decide) (fun _=> rfl) h0 hb fun i hi=> ?_;have:=ldL_row (h i (by omega));rw[Int.toNat_natCast] at this;exact this
theorem trains_single(k:Bk)(m:Nat):(flatR m (trainL k)).all single=true:=by
 unfold flatR;rw[List.all_eq_true];intro x hx;obtain⟨i,_,hi⟩:=List.mem_flatMap.1 hx;simp only[trainL,List.mem_cons,List.not_mem_nil,or_false] at hi;rcases hi with rfl|rfl|rfl|rfl <;> rfl
section
variable(M:Md Tryz.prog)(H:View)
theorem first_book_c(k:Bk)(A:Option Addr)(lc:Nat)(B:Option Addr)(tc:Nat)(hk:BkAt H k A lc B tc)(hnt:k.nt≤6)(m:Nat)(hm:m<k.nt):
   CallT M 45 #[k.val A lc B tc,.int .i64 (m:Nat)] H (fun v H'=> H.le H'∧∃B' tc',v=(k.first m).val A lc B' tc'∧BkAt H' (k.first m) A lc B' tc'):=by
 obtain⟨htc,h0|⟨tb,to,tf,ts,tt,tz,rfl,htb,htl⟩⟩:=hk.trains
 · omega
 have hsrc:=fun(H':View) (h:H.le H')=> first_src k m (c:=tc) (h _ _ htb) (by omega) htl;refine .en Tryz.func45 Tryz.ntmps45 fun St c cs hK=> ?_;(iterate 2 refine U ?_);refine .e (.bx (zz:=fun b2=> ?_));refine .e (.al (zz:=fun b4=> ?_));(iterate 4 refine U ?_);refine .e (.al (zz:=fun b5=> ?_));refine .e (.st 0 (zz:=?_));(iterate 3 refine U ?_);refine .e (.bs (zz:=fun bs=> ?_));(iterate 3 refine U ?_);refine .x (OpV.sliceTo (E:=en) (len:=k.nt) (cap:=tc) (off:=to) (k:=m) (blk:=tb) rfl rfl rfl rfl rfl rfl (by omega) (by omega)) ?_;refine To.permL (L₁:= [(b5,true,.cells ⟨(k.val A lc (some ⟨tb,to,none⟩) tc).cells.toList⟩ 25 (0,0)),_,_,_]) (List.perm_append_comm (l₁:= [_,_,_]) (l₂:= [_])) ?_;refine .e (Or.append (E:=en) (g:=Gl.emp 47 4 bs) (m:=m) (new:=flatR m (trainL k)) (yv:=.slice (some ⟨tb,to,none⟩) m tc) 3 rfl rfl rfl rfl rfl rfl rfl rfl rfl rfl rfl rfl rfl rfl rfl (fun H' hs'=> hsrc H' hs'.base) (trains_single k m) (by show 0+m≤_;omega) rfl (by decide) (fun g' hn hl=> ?_));refine U ?_;refine .e (.st 0 (zz:=?_));(iterate 4 refine U ?_);refine .e (.st 1 (zz:=?_));refine U ?_;refine Tc.retN (E:=en) hK Tryz.func45 Tryz.results45 (vs:= [_]) (by refine⟨⟨1,_,_,_,_,_,_,_,rfl,rfl,rfl,rfl⟩,?_⟩;exact trivial) ?_;refine fun H' hs=> ⟨hs.base,g'.blk.map (fun b=> ⟨b,0,none⟩),g'.cap,?_,hk.rows.le hs.base,first_trains k m g' (fun x hx=> hs.at_ x (List.mem_cons_of_mem _ (List.mem_cons_of_mem _ (List.mem_cons_of_mem _ hx)))) (by rw[hn];show 0+m=m;omega) (by rw[hl];rfl)⟩
 have hv:g'.val=.slice (g'.blk.map fun b=> ⟨b,0,none⟩) m g'.cap:=by
   unfold Gl.val;rw[hn,show(Gl.emp 47 4 bs).n=0 from rfl,Nat.zero_add]
 show Value.agg ⟨[.int .i64 k.gap,.int .i64 k.give,.slice A k.nl lc,g'.val]⟩=_;rw[hv];rfl
end
theorem settled_ex(k:Bk):∃(n:Nat) (f:Int) (fd:Bool),settledV k.settled=.tuple ⟨[.int .i64 (n:Nat),.int .i64 f,.bool fd,.int .i64 0]⟩∧fd=k.settled.isSome∧(k.settled=none→n=0∧f=0)∧(k.settled.isSome=true→k.settled=some (n,f)):=by
 cases k.settled with
 | none=> exact⟨0,0,false,rfl,rfl,fun _=> ⟨rfl,rfl⟩,fun h=> nomatch h⟩
 | some x=> exact⟨x.1,x.2,true,rfl,rfl,(fun h=> nomatch h),fun _=> rfl⟩
theorem free_pre {H:View}{F:Option Addr}{n m:Nat}{x:Nat→Int}(h:FreeAt H F n x)(hm:m≤n):FreeAt H F m x:=by
 rcases h with h|⟨b,o,f,gs,gt,gz,h1,h2,h3⟩
 · exact .inl (by omega)
 · exact .inr ⟨b,o,f,gs,gt,gz,h1,h2,fun j hj=> h3 j (by omega)⟩
section
variable(H:View)
theorem Settled_w {St:View→Goroutine→Prop}{cs:List Frame}(hG:Glob H)(k:Bk)(A:Option Addr)(lc:Nat)(B:Option Addr)(tc:Nat)(hk:BkAt H k A lc B tc)(X:Option Addr)(n xc:Nat)(x:Nat→Nat)(hX:PicksAt H X n x)(one:Int)(hone:0≤one∧one≤255)
   (hR:∀(H₀:View) (R:Rg) (L:Bl) (kk:List Item),lk R 6=some (.bool true)→H.le H₀→Tc (Mp Tryz.prog) St 180 ⟨6,.normal,none⟩ H₀ cs R L [] (.code .ret::kk)):
   Tc (Mp Tryz.prog) St 180 ⟨6,.normal,none⟩ H cs (argR [k.val A lc B tc,.slice X n xc,.int .u8 one]) [] [] [.code (bodyOf Tryz.f6)]:=by
 have hlives:=fun(H':View) (h:H.le H')=> lives_c H' (glob_le hG h);have hfitc:=fun(H':View) (h:H.le H')=> Fit_c (Mp Tryz.prog) H' k A lc B tc (hk.le h);cases hfit:k.fit with
 | false=>
   (iterate 2 refine U ?_);refine .e (.bx (zz:=fun b3=> ?_));(iterate 6 refine U ?_);refine .c rfl rfl rfl rfl (fun H hs=> .f ca38 rfl (hfitc H hs.base false hfit)) ?_;(iterate 5 refine U ?_);refine .c rfl rfl rfl rfl (fun H hs=> .f ca18 rfl (hlives H hs.base)) ?_;(iterate 2 refine U ?_);exact hR _ _ _ _ rfl (View.le_refl _)
 | true=>
   obtain⟨hgr,hal⟩:k.great=false∧k.alarm=0:=by
     unfold Bk.fit at hfit;rw[Bool.and_eq_true] at hfit;exact⟨by simpa using hfit.1,of_decide_eq_true hfit.2⟩
   have hsm:k.small:=Bk.ungreat_small hgr;obtain⟨hgg,hnl6,hnt6,hok⟩:=Bk.valid hal;obtain⟨N,f,fd,hsv,hfd,hno,hyes⟩:=settled_ex k;have hset:=fun(H':View) (h:H.le H')=> Settled_c (Mp Tryz.prog) H' k A lc B tc (hk.le h) hsm (glob_le hG h) hal;rw[hsv] at hset;have hsure:=sure_is hal;rw[←hfd] at hsure;(iterate 2 refine U ?_);refine .e (.bx (zz:=fun b3=> ?_));(iterate 6 refine U ?_);refine .c rfl rfl rfl rfl (fun H hs=> .f ca38 rfl (hfitc H hs.base true hfit)) ?_;(iterate 7 refine U ?_);refine .c rfl rfl rfl rfl (fun H hs=> .f ca31 rfl (hset H hs.base)) ?_;(iterate 13 refine U ?_);refine To.callF rfl rfl rfl rfl rfl rfl (by decide) (FnT.f ca26 rfl (Reaches_l (Mp Tryz.prog) H k A lc B tc hk hsm hG hal)) (fun v H₂ hv=> ?_);obtain⟨hle2,G4,c4,rfl,hF4⟩:=hv;have hgl2:=glob_le hG hle2;have hk2:=hk.le hle2;have hdec:∀u y:Int,intBin .eql .i64 u y=some (.bool (decide (u=y))):=fun u y=> by
     by_cases c:u=y
     · rw[decide_eq_true c];exact eql_t c
     · rw[decide_eq_false c];exact eql_f c
   have hd0:=hdec (k.claimOf (-1)) 1;(iterate 40 refine U ?_);refine Tc.db (Tc.loopInv (σ:= { i:Nat//i≤k.nl }) (fun i=> ([(1,.slice X n xc),(2,.int .u8 one),(3,.pointer (some ⟨b3,0,none⟩)),(7,.int .i64 (N:Nat)),(8,.int .i64 f),(9,.bool fd),(11,.slice G4 k.nl c4),(14,.bool (k.sureTo i.1)),(15,.int .i64 (i.1:Nat))],[(b3,true,.cells ⟨(k.val A lc B tc).cells.toList⟩ 25 (0,0))])) (fun i=> k.nl-i.1) ?_ ⟨0,Nat.zero_le _⟩);rintro⟨i,hi⟩ ih;show Tc (Mp Tryz.prog) St _ _ _ _ [(1,.slice X n xc),(2,.int .u8 one),(3,.pointer (some ⟨b3,0,none⟩)),(7,.int .i64 (N:Nat)),(8,.int .i64 f),(9,.bool fd),(11,.slice G4 k.nl c4),(14,.bool (k.sureTo i)),(15,.int .i64 (i:Nat))] [(b3,true,.cells ⟨(k.val A lc B tc).cells.toList⟩ 25 (0,0))] _ _;by_cases c1:i<k.nl
   · obtain h0|⟨xb,xo,xf,xs,xt,xz,rfl,hxb,hxl⟩:=hF4
     · omega
     have f1:=hxl i c1;have hd2:=hdec (k.claimOf (i:Nat)) 1;have hnx:k.sureTo (i+1)=(k.sureTo i||decide (k.claimOf (i:Nat)=1)):=rfl;have ih2:=ih ⟨i+1,by omega⟩ (by simp only;omega);dsimp only at ih2
     rw[hnx] at ih2;clear ih hnx hsure;generalize k.sureTo i=sb at *;cases sb with
     | true=>
       (iterate 29 refine U ?_);exact Tc.db (ih2)
     | false=>
       (iterate 29 refine U ?_);exact Tc.db (ih2)
   · clear ih;have e3:i=k.nl:=by omega
     subst e3;rw[hsure];have hin:∀i,i<k.nt→k.inAt (k.pickP n x) (k.pickQ n x) i=true:=fun i hi=> pick_inAt hok n x hi;cases fd with
     | false=>
       have hs0:k.settled=none:=by
         cases h:k.settled with
         | none=> rfl
         | some z=> rw[h] at hfd;cases hfd
       obtain⟨rfl,rfl⟩:=hno hs0;(iterate 35 refine U ?_);refine .c rfl rfl rfl rfl (fun H hs=> .f ca18 rfl (hlives H (View.le_trans hle2 hs.base))) ?_;(iterate 3 refine U ?_);exact hR _ _ _ _ rfl hle2
     | true=>
       have hs1:=hyes hfd.symm;obtain⟨hNt,_,_⟩:=settled_in hs1;obtain⟨hf2,hall,hf3,hf4⟩:=settled_all hal hs1;have hfull:=hall k.nt hNt (Nat.le_refl _) _ (earTo_in hok (p:=k.pickP n x) (q:=k.pickQ n x) (Nat.le_refl _) hin);have hpart:=hall N (Nat.le_refl _) hNt _ (earTo_in hok (p:=k.pickP n x) (q:=k.pickQ n x) hNt (fun i hi=> hin i (by omega)));(iterate 34 refine U ?_);refine .c rfl rfl rfl rfl (fun H hs=> .f ca44 rfl (In_c (Mp Tryz.prog) H (N:Nat) 0 (k.nt:Nat) true (decide_eq_true (by omega)))) ?_;(iterate 7 refine U ?_);refine .c rfl rfl rfl rfl (fun H hs=> .f ca44 rfl (In_c (Mp Tryz.prog) H f (-1) ((k.nl:Nat)-1) true (decide_eq_true (by omega)))) ?_;(iterate 9 refine U ?_);refine To.callF rfl rfl rfl rfl rfl rfl (by decide) (FnT.f ca39 rfl (Dialled_c (Mp Tryz.prog) H₂ k A lc B tc hk2.trains hok hnt6 X n xc x (hX.le hle2))) (fun v H₃ hv=> ?_);obtain⟨hle3,P,pc,Q,qc,rfl,hP,hQ,⟨hpc,hqc⟩,hz⟩:=hv;have hH3:=View.le_trans hle2 hle3;have hk3:=hk2.le hle3;have hgl3:=glob_le hgl2 hle3;have hears:=fun(H':View) (h:H₃.le H')=> earsD_c (Mp Tryz.prog) H' k A lc B tc hok P Q k.nt pc qc (k.pickP n x) (k.pickQ n x) (hP.le h) (hQ.le h) (Nat.le_refl _) hnt6 hin;have hears2:=fun(H':View) (h:H₃.le H')=> earsD_c (Mp Tryz.prog) H' k A lc B tc hok P Q N pc qc (k.pickP n x) (k.pickQ n x) (free_pre (hP.le h) hNt) (free_pre (hQ.le h) hNt) hNt hnt6 (fun i hi=> hin i (by omega));generalize k.earTo (k.pickP n x) (k.pickQ n x) k.nt=e1 at *;generalize k.earTo (k.pickP n x) (k.pickQ n x) N=e2 at *;have hcal:=fun(H':View) (h:H₃.le H')=> called_c (Mp Tryz.prog) H' k A lc B tc (hk3.rows.le h) (by omega);have hcal1:=fun(H':View) (h:H₃.le H')=> hcal H' h e1.heard;have hcal2:=fun(H':View) (h:H₃.le H')=> hcal H' h e2.heard;rw[hfull] at hcal1;rw[hpart] at hcal2;rcases Nat.eq_zero_or_pos k.nt with h0|h0
       · obtain⟨⟨rfl,rfl⟩,rfl,rfl⟩:=hz h0;have hN0:N=0:=by omega
         subst hN0;rw[h0] at hears;rw[h0];(iterate 8 refine U ?_);refine Tc.dr [] [] mixed rfl ?_;refine .q 0 rfl (.ld 0) ?_;refine .q 1 rfl (.ld 0) ?_;refine .q 2 rfl .mv ?_;refine .q 3 rfl .mv ?_;refine .z 4 rfl (OpV.takeCall rfl rfl rfl rfl (fun H hs=> .f ca40 rfl (hears H hs.base))) ?_;refine .z 5 rfl (OpV.takeCall rfl rfl rfl rfl (fun H hs=> .f ca41 rfl (hcal1 H hs.base))) ?_;refine .q 6 rfl .mv ?_;refine .q 7 rfl (.it (zz:=neq_f (by omega))) ?_;refine .q 8 rfl .mv ?_;refine .q 9 rfl (.ld 0) ?_;refine .q 10 rfl (.ld 0) ?_;refine .q 11 rfl .mv ?_;refine .q 12 rfl .mv ?_;refine .q 13 rfl (OpV.slice0 (E:=en) rfl rfl rfl rfl rfl rfl rfl) ?_;refine .q 14 rfl .mv ?_;refine .q 15 rfl .mv ?_;refine .q 16 rfl (OpV.slice0 (E:=en) rfl rfl rfl rfl rfl rfl rfl) ?_;refine .z 17 rfl (OpV.takeCall rfl rfl rfl rfl (fun H hs=> .f ca40 rfl (hears2 H hs.base))) ?_;refine .z 18 rfl (OpV.takeCall rfl rfl rfl rfl (fun H hs=> .f ca41 rfl (hcal2 H hs.base))) ?_;refine .q 19 rfl .mv ?_;refine .q 20 rfl (.it (zz:=neq_f (by omega))) ?_;refine .q 21 rfl .pk ?_;refine Ta.done (by kernel_rfl) ?_;(iterate 11 refine U ?_);refine .c rfl rfl rfl rfl (fun H hs=> .f ca18 rfl (hlives H (View.le_trans hH3 hs.base))) ?_;(iterate 2 refine U ?_);exact hR _ _ _ _ rfl hH3
       obtain h0'|⟨pb,po,pf,ps,pt,pz,rfl,_,_⟩:=hP
       · omega
       obtain h0'|⟨qb,qo,qf,qs,qt,qz,rfl,_,_⟩:=hQ
       · omega
       (iterate 8 refine U ?_);refine Tc.dr [] [] mixed rfl ?_;refine .q 0 rfl (.ld 0) ?_;refine .q 1 rfl (.ld 0) ?_;refine .q 2 rfl .mv ?_;refine .q 3 rfl .mv ?_;refine .z 4 rfl (OpV.takeCall rfl rfl rfl rfl (fun H hs=> .f ca40 rfl (hears H hs.base))) ?_;refine .z 5 rfl (OpV.takeCall rfl rfl rfl rfl (fun H hs=> .f ca41 rfl (hcal1 H hs.base))) ?_;refine .q 6 rfl .mv ?_;refine .q 7 rfl (.it (zz:=neq_f (by omega))) ?_;refine .q 8 rfl .mv ?_;refine .q 9 rfl (.ld 0) ?_;refine .q 10 rfl (.ld 0) ?_;refine .q 11 rfl .mv ?_;refine .q 12 rfl .mv ?_;refine .q 13 rfl (OpV.sliceTo (E:=en) (len:=k.nt) (cap:=pc) (off:=po) (k:=N) (blk:=pb) rfl rfl rfl rfl rfl rfl (by omega) (by omega)) ?_;refine .q 14 rfl .mv ?_;refine .q 15 rfl .mv ?_;refine .q 16 rfl (OpV.sliceTo (E:=en) (len:=k.nt) (cap:=qc) (off:=qo) (k:=N) (blk:=qb) rfl rfl rfl rfl rfl rfl (by omega) (by omega)) ?_;refine .z 17 rfl (OpV.takeCall rfl rfl rfl rfl (fun H hs=> .f ca40 rfl (hears2 H hs.base))) ?_;refine .z 18 rfl (OpV.takeCall rfl rfl rfl rfl (fun H hs=> .f ca41 rfl (hcal2 H hs.base))) ?_;refine .q 19 rfl .mv ?_;refine .q 20 rfl (.it (zz:=neq_f (by omega))) ?_;refine .q 21 rfl .pk ?_;refine Ta.done (by kernel_rfl) ?_;(iterate 4 refine U ?_);rcases Nat.eq_zero_or_pos N with hN|hN
       · subst hN;(iterate 7 refine U ?_);refine .c rfl rfl rfl rfl (fun H hs=> .f ca18 rfl (hlives H (View.le_trans hH3 hs.base))) ?_;(iterate 2 refine U ?_);exact hR _ _ _ _ rfl hH3
       obtain⟨w,hw,hwp⟩:∃w:Nat,w<N∧one%(N:Nat)=(w:Nat):=by
         have h1:=Int.emod_nonneg one (show((N:Nat):Int)≠0 by omega);have h2:=Int.emod_lt_of_pos one (show(0:Int)<(N:Nat) by omega);exact⟨(one%(N:Nat)).toNat,by omega,by omega⟩
       have w1:IntKind.i64.wrap one=one:=wrap64 (by omega) (by omega);have e2:intBin .rem .i64 one (N:Nat)=some (.int .i64 (w:Nat)):=by rw[rem_in (by omega) (by omega),hwp]
       have hval:=first_valid hal (m:=w) (by omega);have hsm2:(k.first w).small:=⟨hsm.nl,by show w≤_;have:=hsm.nt;omega,hsm.num⟩
       have hl1:=heard_len hval;have hno1:=early_no hal hs1 hw;have hpos:0<(k.first w).heardL.length:=by
         obtain⟨e0,he0⟩:=k.ears_some hok w (by omega);exact List.length_pos_of_mem (first_heard.2 ⟨e0,he0,rfl⟩)
       (iterate 18 refine U ?_);refine To.callF rfl rfl rfl rfl rfl rfl (by decide) (FnT.f ca45 rfl (first_book_c (Mp Tryz.prog) H₃ k A lc B tc hk3 hnt6 w (by omega))) (fun v H₄ hv=> ?_);obtain⟨hle4,B',tc',rfl,hkF⟩:=hv;have hH4:=View.le_trans hH3 hle4;refine To.callF rfl rfl rfl rfl rfl rfl (by decide) (FnT.f ca23 rfl (HeardG_l (Mp Tryz.prog) H₄ (k.first w) A lc B' tc' hkF hsm2 (glob_le hgl3 hle4) hval)) (fun v H₅ hv=> ?_);obtain⟨hle5,G5,n5,c5,hn5,rfl,hS5⟩:=hv;have hH5:=View.le_trans hH4 hle5;have hk5:=hk3.le (View.le_trans hle4 hle5);rw[←hn5] at hno1 hpos;obtain h0'|⟨sb,so,sf,ss,st,sz,rfl,hsb,hsl⟩:=hS5
       · omega
       have f0:=hsl 0 hpos;have hcalw:=fun(H':View) (h:H₅.le H') (s:List UInt8)=> called_c (Mp Tryz.prog) H' k A lc B tc (hk5.rows.le h) (by omega) s;have hge:∀u:Int,intBin .geq .i64 u 0=some (.bool (decide (0≤u))):=fun u=> by
         by_cases c:0≤u
         · rw[decide_eq_true c];exact geq_t c
         · rw[decide_eq_false c];exact geq_f (by omega)
       have hg0:=hge (firstI (k.line ((k.first w).heardL[0]?.getD [])));(iterate 20 refine U ?_);refine Tc.dr [] [] mixed rfl ?_;refine .q 0 rfl (.ld 0) ?_;refine .q 1 rfl .mv ?_;refine .q 2 rfl .ia ?_;refine .q 3 rfl .l0 ?_;refine .z 4 rfl (OpV.takeCall rfl rfl rfl rfl (fun H hs=> .f ca41 rfl (hcalw H hs.base _))) ?_;refine .q 5 rfl (.it (zz:=(by assumption))) ?_;refine .q 6 rfl .sg ?_;refine Ta.done (by kernel_rfl) ?_;(iterate 6 refine U ?_);refine Tc.db (Tc.loopInv (σ:= { i:Nat//i≤n5 }) (fun i=> ([(3,.pointer (some ⟨b3,0,none⟩)),(19,.slice (some ⟨sb,so,none⟩) n5 c5),(21,.bool (allTo (fun j=> firstI (k.line ((k.first w).heardL[j]?.getD []))) i.1)),(22,.int .i64 (i.1:Nat))],[(b3,true,.cells ⟨(k.val A lc B tc).cells.toList⟩ 25 (0,0))])) (fun i=> n5-i.1) ?_ ⟨0,Nat.zero_le _⟩);rintro⟨j,hj⟩ ih;show Tc (Mp Tryz.prog) St _ _ _ _ [(3,.pointer (some ⟨b3,0,none⟩)),(19,.slice (some ⟨sb,so,none⟩) n5 c5),(21,.bool (allTo (fun j=> firstI (k.line ((k.first w).heardL[j]?.getD []))) j)),(22,.int .i64 (j:Nat))] [(b3,true,.cells ⟨(k.val A lc B tc).cells.toList⟩ 25 (0,0))] _ _;by_cases c3:j<n5
       · have f2:=hsl j c3;have hnx:allTo (fun j=> firstI (k.line ((k.first w).heardL[j]?.getD []))) (j+1)=(allTo (fun j=> firstI (k.line ((k.first w).heardL[j]?.getD []))) j&&decide (firstI (k.line ((k.first w).heardL[j]?.getD []))=firstI (k.line ((k.first w).heardL[0]?.getD [])))):=rfl;have ih2:=ih ⟨j+1,by omega⟩ (by simp only;omega);dsimp only at ih2
         rw[hnx] at ih2;have hq:=hdec (firstI (k.line ((k.first w).heardL[j]?.getD []))) (firstI (k.line ((k.first w).heardL[0]?.getD [])));clear ih hnx hno1;generalize allTo (fun j=> firstI (k.line ((k.first w).heardL[j]?.getD []))) j=sb2 at *;cases sb2 with
         | true=>
           (iterate 12 refine U ?_);refine Tc.dr [] [] mixed rfl ?_;refine .q 0 rfl .mv ?_;refine .q 1 rfl .mv ?_;refine .q 2 rfl (.ld 0) ?_;refine .q 3 rfl .mv ?_;refine .q 4 rfl .mv ?_;refine .q 5 rfl .ia ?_;refine .q 6 rfl .l0 ?_;refine .z 7 rfl (OpV.takeCall rfl rfl rfl rfl (fun H hs=> .f ca41 rfl (hcalw H hs.base _))) ?_;refine .q 8 rfl (.ld 0) ?_;refine .q 9 rfl .mv ?_;refine .q 10 rfl .ia ?_;refine .q 11 rfl .l0 ?_;refine .z 12 rfl (OpV.takeCall rfl rfl rfl rfl (fun H hs=> .f ca41 rfl (hcalw H hs.base _))) ?_;refine .q 13 rfl (.it (zz:=(by assumption))) ?_;refine .q 14 rfl .pk ?_;refine .q 15 rfl .sg ?_;refine Ta.done (by kernel_rfl) ?_;(iterate 6 refine U ?_);exact Tc.db (ih2)
         | false=>
           (iterate 12 refine U ?_);refine Tc.dr [] [] mixed rfl ?_;refine .q 0 rfl .mv ?_;refine .q 1 rfl .mv ?_;refine Ta.ps 2 (by kernel_rfl) rfl rfl rfl (by decide) rfl rfl ?_;refine Ta.ps 3 (by kernel_rfl) rfl rfl rfl (by decide) rfl rfl ?_;refine Ta.ps 4 (by kernel_rfl) rfl rfl rfl (by decide) rfl rfl ?_;refine Ta.ps 5 (by kernel_rfl) rfl rfl rfl (by decide) rfl rfl ?_;refine Ta.ps 6 (by kernel_rfl) rfl rfl rfl (by decide) rfl rfl ?_;refine Ta.ps 7 (by kernel_rfl) rfl rfl rfl (by decide) rfl rfl ?_;refine Ta.ps 8 (by kernel_rfl) rfl rfl rfl (by decide) rfl rfl ?_;refine Ta.ps 9 (by kernel_rfl) rfl rfl rfl (by decide) rfl rfl ?_;refine Ta.ps 10 (by kernel_rfl) rfl rfl rfl (by decide) rfl rfl ?_;refine Ta.ps 11 (by kernel_rfl) rfl rfl rfl (by decide) rfl rfl ?_;refine Ta.ps 12 (by kernel_rfl) rfl rfl rfl (by decide) rfl rfl ?_;refine Ta.ps 13 (by kernel_rfl) rfl rfl rfl (by decide) rfl rfl ?_;refine .q 14 rfl .pk ?_;refine .q 15 rfl .sg ?_;refine Ta.done (by kernel_rfl) ?_;(iterate 6 refine U ?_);exact Tc.db (ih2)
       · clear ih;have e4:j=n5:=by omega
         subst e4;rw[hno1];(iterate 15 refine U ?_);refine .c rfl rfl rfl rfl (fun H hs=> .f ca18 rfl (hlives H (View.le_trans hH5 hs.base))) ?_;(iterate 3 refine U ?_);exact hR _ _ _ _ rfl hH5
end
end Go.Proofs.YtdnfdeplcjaonaaGreatDoor
