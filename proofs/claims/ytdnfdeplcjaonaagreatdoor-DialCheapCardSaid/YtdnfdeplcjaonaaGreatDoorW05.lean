/-
  Texts of the proofs over baudot/dial: A12 A13 A14 Draw4 A15 A16 A17 A18 A19 A20 R2 C1 S1 S2 S3 Clr S4 S5 S6.
-/
import Derived.Test.YtdnfdeplcjaonaaGreatDoorW04
namespace Go.Proofs.YtdnfdeplcjaonaaGreatDoor
open Go.RL Go.Proofs.Tryz
set_option maxRecDepth 10000
set_option maxHeartbeats 4000000
def flatR(n:Nat)(f:Nat→List Value):List Value:=(List.range n).flatMap f
theorem flatR_succ(n:Nat)(f:Nat→List Value):flatR (n+1) f=flatR n f++f n:=by
 unfold flatR;rw[List.range_succ,List.flatMap_append];simp
theorem flatR_len {f:Nat→List Value}{sz:Nat}(h:∀i,(f i).length=sz):∀n,(flatR n f).length=n*sz
 | 0=> by simp[flatR]
 | n+1=> by rw[flatR_succ,List.length_append,flatR_len h n,h,Nat.succ_mul]
theorem flatR_congr {f g:Nat→List Value}:∀n,(∀i,i<n→f i=g i)→flatR n f=flatR n g
 | 0,_=> rfl
 | n+1,h=> by rw[flatR_succ,flatR_succ,flatR_congr n (fun i hi=> h i (by omega)),h n (by omega)]
theorem flatR_split {f:Nat→List Value}:∀n i,i<n→∃t,flatR n f=flatR i f++(f i++t)∧∀g:Nat→List Value,(∀j,j<n→j≠i→g j=f j)→flatR n g=flatR i f++(g i++t)
 | 0,_,h=> by omega
 | n + 1,i,h=> by
   by_cases e:i=n
   · subst e;refine⟨[],by rw[flatR_succ];simp,fun g hg=> ?_⟩;rw[flatR_succ,flatR_congr i (fun j hj=> hg j (by omega) (by omega))];simp
   · obtain⟨t,h1,h2⟩:=flatR_split (f:=f) n i (by omega);refine⟨t++f n,by rw[flatR_succ,h1];simp,fun g hg=> ?_⟩;rw[flatR_succ,h2 g (fun j hj=> hg j (by omega)),hg n (by omega) (by omega)];simp
theorem flatR_ld {f:Nat→List Value}{sz:Nat}(h:∀i,(f i).length=sz){n i:Nat}(hi:i<n)(junk:List Value):ldL true sz (flatR n f++junk) (i*sz)=some (.agg ⟨f i⟩):=by
 obtain⟨t,h1,_⟩:=flatR_split (f:=f) n i hi;rw[h1];have hl:(flatR i f).length=i*sz:=flatR_len h i;rw[ldL_of (by simp only[List.length_append,hl,h i];omega)]
 congr 3
 rw[List.append_assoc,List.append_assoc,List.drop_left' hl,List.take_left' (h i)]
theorem flatR_single {f:Nat→List Value}(h:∀i,(f i).all single=true)(n:Nat):(flatR n f).all single=true:=by
 unfold flatR;rw[List.all_eq_true];intro x hx;obtain⟨i,_,h2⟩:=List.mem_flatMap.1 hx;exact List.all_eq_true.1 (h i) x h2
def rowL(k:Bk)(F:Nat→Option Addr)(fc:Nat→Nat)(i:Nat):List Value:= [strV (k.name i),strV (k.num i),.slice (F i) (k.nf i) (fc i)]
def trainL(k:Bk)(i:Nat):List Value:= [.int .i64 (k.pf i),.int .i64 (k.pt i),.int .i64 (k.qf i),.int .i64 (k.qt i)]
def freeL(x:Nat→Int)(j:Nat):List Value:= [.int .i64 (x j)]
structure BookAt(H:View)(k:Bk)(A:Option Addr)(lc:Nat)(B:Option Addr)(tc:Nat)(F:Nat→Option Addr)(fc:Nat→Nat):Prop where
 hlc:k.nl≤lc
 htc:k.nt≤tc
 rows:SrcAt H 3 (.slice A k.nl lc) k.nl (flatR k.nl (rowL k F fc))
 trains:SrcAt H 4 (.slice B k.nt tc) k.nt (flatR k.nt (trainL k))
 hfc:∀i,i<k.nl→k.nf i≤fc i
 free:∀i,i<k.nl→SrcAt H 1 (.slice (F i) (k.nf i) (fc i)) (k.nf i) (flatR (k.nf i) (freeL (k.free i)))
theorem BookAt.le {H H':View}{k:Bk}{A:Option Addr}{lc:Nat}{B:Option Addr}{tc:Nat}{F:Nat→Option Addr}{fc:Nat→Nat}(h:BookAt H k A lc B tc F fc)(hl:H.le H'):BookAt H' k A lc B tc F fc:=
 ⟨h.hlc,h.htc,h.rows.mono hl,h.trains.mono hl,h.hfc,fun i hi=> (h.free i hi).mono hl⟩
theorem src_row {H:View}{sz n c:Nat}{A:Option Addr}{f:Nat→List Value}(hf:∀i,(f i).length=sz)(h:SrcAt H sz (.slice A n c) n (flatR n f))(hn:0<n)(h0:0<sz):
   ∃b o g gs gt gz,A=some ⟨b,o,none⟩∧H b=some (g,.cells ⟨gs⟩ gt gz)∧∀i:Nat,i<n→ldL true sz gs (o+(i:Int).toNat*sz)=some (.agg ⟨f i⟩):=by
 have hl:=flatR_len hf n;have hpos:0<n*sz:=Nat.mul_pos hn h0;obtain⟨_,_,⟨_,_,_,h1⟩|⟨b,o,c',g,gs,gt,gz,h1,h2,h3,h4⟩⟩:=h
 · rw[h1] at hl;simp at hl
   omega
 · simp only[Value.slice.injEq] at h1;refine⟨b,o,g,gs,gt,gz,h1.1,h2,fun i hi=> ?_⟩;have h5:=flatR_ld hf hi [];rw[List.append_nil] at h5;have h6:=(ldL_le h5).1;rw[←h4] at h5;rw[←h5,Int.toNat_natCast];have h7:i*sz+sz≤(flatR n f).length:=h6;rw[ldL_of (by omega),ldL_of (by rw[List.length_take,List.length_drop];omega)]
   congr 3
   rw[List.drop_take,List.take_take,List.drop_drop,Nat.min_eq_left (by omega)]
theorem BookAt.rowsAt {H:View}{k:Bk}{A:Option Addr}{lc:Nat}{B:Option Addr}{tc:Nat}{F:Nat→Option Addr}{fc:Nat→Nat}(h:BookAt H k A lc B tc F fc):RowsAt H k A lc:=by
 refine⟨h.hlc,?_⟩;rcases Nat.eq_zero_or_pos k.nl with h0|h0
 · exact .inl h0
 · obtain⟨b,o,g,gs,gt,gz,h1,h2,h3⟩:=src_row (f:=rowL k F fc) (sz:=3) (fun _=> rfl) h.rows h0 (by decide);refine .inr ⟨b,o,g,gs,gt,gz,h1,h2,fun i hi=> ⟨F i,fc i,h3 i hi,h.hfc i hi,?_⟩⟩;rcases Nat.eq_zero_or_pos (k.nf i) with h4|h4
   · exact .inl h4
   · obtain⟨b',o',g',gs',gt',gz',h5,h6,h7⟩:=src_row (f:=freeL (k.free i)) (sz:=1) (fun _=> rfl) (h.free i hi) h4 (by decide);refine .inr ⟨b',o',g',gs',gt',gz',h5,h6,fun j hj=> ?_⟩;have h8:=h7 j hj;have h9:=(ldL_le h8).1;have h10:=(ldL_le h8).2;show gs'[_]? =_;simp only[Value.agg.injEq,Array.mk.injEq,freeL] at h10;have h11:=congrArg (fun l=> l[0]?) h10;simp only[List.getElem?_take,List.getElem?_drop] at h11;simpa using h11.symm
theorem BookAt.trainsAt {H:View}{k:Bk}{A:Option Addr}{lc:Nat}{B:Option Addr}{tc:Nat}{F:Nat→Option Addr}{fc:Nat→Nat}(h:BookAt H k A lc B tc F fc):TrainsAt H k B tc:=by
 refine⟨h.htc,?_⟩;rcases Nat.eq_zero_or_pos k.nt with h0|h0
 · exact .inl h0
 · obtain⟨b,o,g,gs,gt,gz,h1,h2,h3⟩:=src_row (f:=trainL k) (sz:=4) (fun _=> rfl) h.trains h0 (by decide);exact .inr ⟨b,o,g,gs,gt,gz,h1,h2,fun i hi=> h3 i hi⟩
def Bk.with(k:Bk)(t:Nat)(x y z w:Int):Bk:=
 { k with pf:=fun i=> if i=t then x else k.pf i,pt:=fun i=> if i=t then y else k.pt i,qf:=fun i=> if i=t then z else k.qf i,qt:=fun i=> if i=t then w else k.qt i }
theorem gl_nodup {e:TypeId}{sz:Nat}(g:Gl e sz):(g.bl.map (·.1)).Nodup:=by
 unfold Gl.bl;split <;> simp
theorem rowL_single(k:Bk)(F:Nat→Option Addr)(fc:Nat→Nat)(i:Nat):(rowL k F fc i).all single=true:=rfl
theorem trainL_single(k:Bk)(i:Nat):(trainL k i).all single=true:=rfl
theorem freeL_single(x:Nat→Int)(i:Nat):(freeL x i).all single=true:=rfl
def addrOf(l:List (Gl 38 1))(F:Nat→Option Addr)(i:Nat):Option Addr:=match l[i]? with
 | some g=> g.blk.map fun b=> ⟨b,0,none⟩
 | none=> F i
def capOf(l:List (Gl 38 1))(fc:Nat→Nat)(i:Nat):Nat:=match l[i]? with
 | some g=> g.cap
 | none=> fc i
def blsOf(l:List (Gl 38 1)):Bl:=l.flatMap Gl.bl
theorem flatR_cell {f:Nat→List Value}{sz:Nat}(h:∀i,(f i).length=sz){n i d:Nat}(hi:i<n)(hd:d<sz)(junk:List Value):(flatR n f++junk)[i*sz+d]? =(f i)[d]? :=by
 obtain⟨t,h1,_⟩:=flatR_split (f:=f) n i hi;have hl:(flatR i f).length=i*sz:=flatR_len h i;rw[h1,List.append_assoc,List.append_assoc,List.getElem?_append_right (by omega),hl,Nat.add_sub_cancel_left,List.getElem?_append_left (by rw[h i];exact hd)]
theorem flatR_st {f g:Nat→List Value}{sz:Nat}(h:∀i,(f i).length=sz){n i d:Nat}(hi:i<n)(hd:d<sz)(junk:List Value)(v:Value)(hg:∀j,j<n→j≠i→g j=f j)(hv:g i=(f i).set d v):stL (flatR n f++junk) (i*sz+d) [v]=flatR n g++junk:=by
 obtain⟨t,h1,h2⟩:=flatR_split (f:=f) n i hi;have hl:(flatR i f).length=i*sz:=flatR_len h i;rw[h1,h2 g hg,hv,←stL_cons _ _ _ _ (by simp only[List.length_append,hl,h i];omega),stL_nil];rw[List.append_assoc,List.append_assoc,List.set_append_right _ _ (by omega),hl,Nat.add_sub_cancel_left,List.set_append_left _ _ (by rw[h i];exact hd)];simp
theorem flatR_row {f g:Nat→List Value}{sz:Nat}(h:∀i,(f i).length=sz)(h':∀i,(g i).length=sz){n i:Nat}(hi:i<n)(junk:List Value)(hg:∀j,j<n→j≠i→g j=f j):stL (flatR n f++junk) (i*sz) (g i)=flatR n g++junk:=by
 obtain⟨t,h1,h2⟩:=flatR_split (f:=f) n i hi;have hl:(flatR i f).length=i*sz:=flatR_len h i;rw[h1,h2 g hg];unfold stL;rw[List.append_assoc,List.append_assoc,List.append_assoc,List.append_assoc,List.take_left' hl,h' i,←List.drop_drop,List.drop_left' hl,List.drop_left' (h i)];simp
theorem src_flat {H:View}{f:Nat→List Value}{sz n c b:Nat}{fl:Bool}{junk:List Value}{e:TypeId}{fz:Nat×Nat}(h:∀i,(f i).length=sz)(hb:H b=some (fl,.cells ⟨flatR n f++junk⟩ e fz)):SrcAt H sz (.slice (some ⟨b,0,none⟩) n c) n (flatR n f):=
 ⟨⟨_,_,rfl⟩,flatR_len h n,.inr ⟨b,0,c,fl,_,e,fz,rfl,hb,by simp,by simp⟩⟩
section
variable(M:Md prog)(H:View)
theorem with_c(k:Bk)(A:Option Addr)(lc:Nat)(B:Option Addr)(tc:Nat)(F:Nat→Option Addr)(fc:Nat→Nat)(hB:BookAt H k A lc B tc F fc)(hn:k.nl≤1000)(hnt:k.nt≤1000)(hnf:∀i,i<k.nl→k.nf i≤1000)(t:Nat)(ht:t<k.nt)(x y z w:Int):
   CallT M 111 #[k.val A lc B tc,.int .i64 (t:Nat),trainV x y z w] H (fun v H'=> H.le H'∧∃A' lc' B' tc' F' fc',v=(k.with t x y z w).val A' lc' B' tc'∧BookAt H' (k.with t x y z w) A' lc' B' tc' F' fc'):=by
 refine .en func111 ntmps111 fun St c cs hK=> ?_;refine U2 ?_;refine .bo fun b3=> ?_;refine .bo fun b5=> ?_;refine .al fun b6=> ?_;refine U2 ?_;refine Tc.dr [10,13] [2] mixed rfl ?_;refine .nn 0 ?_;refine .nn 1 ?_;refine .nn 2 ?_;refine .nn 4 ?_;refine .nn 5 ?_;refine .nn 6 ?_;refine Ta.each [3] (by kernel_rfl) rfl ⟨TaOp.mk rfl rfl rfl (Or.callNew Gl.val Gl.bl (fun g:Gl 64 3=> g.l=flatR k.nl (rowL k F fc)∧g.n=k.nl) rfl rfl rfl rfl rfl (by decide) gl_nodup (fun H₁ hs₁=> .h (clone138_c M H₁ A k.nl lc _ (by omega) (hB.rows.mono hs₁.base) (flatR_single (rowL_single k F fc) _))) (fun g hg=> ⟨S2.mk (by exact List.sublist_append_left _ _) (.inr (by exact List.sublist_append_left _ _)),?_⟩)),trivial⟩;refine .nw 8 ?_;refine .nn 9 ?_;refine Ta.each [7] (by kernel_rfl) rfl ⟨TaOp.mk rfl rfl rfl (Or.callNew Gl.val Gl.bl (fun g:Gl 47 4=> g.l=flatR k.nt (trainL k)∧g.n=k.nt) rfl rfl rfl rfl rfl (by decide) gl_nodup (fun H₁ hs₁=> .h (clone139_c M H₁ B k.nt tc _ (by omega) (hB.trains.mono hs₁.base) (flatR_single (trainL_single k) _))) (fun g2 hg2=> ⟨S2.mk (by exact List.sublist_append_left _ _) (.inr (by exact List.sublist_append_left _ _)),?_⟩)),trivial⟩;refine .e 10 2 ?_;refine .nw 11 ?_;refine .nw 12 ?_;refine .e 13 2 ?_;refine .dn ?_;obtain⟨gb,gn,gc,gl,gj,hgl,hgc,hgj,hg0⟩:=g;obtain⟨rfl,rfl⟩:=hg;obtain⟨g2b,g2n,g2c,g2l,g2j,hg2l,hg2c,hg2j,hg20⟩:=g2;obtain⟨rfl,rfl⟩:=hg2;cases g2b with
 | none=>
   have:=hg20 rfl;omega
 | some tb =>
   cases gb with
   | none=>
     have h0:=hg0 rfl;have h00:k.nl=0:=by omega
     have f3:Nat.ble (0+((t:Nat):Int).toNat*4+4) (flatR k.nt (trainL k)++g2j).length=true:=by
       refine Nat.ble_eq_true_of_le ?_;rw[List.length_append,flatR_len (f:=trainL k) (sz:=4) (fun _=> rfl),Int.toNat_natCast];omega
     refine U10 ?_;refine Tc.db (Tc.loopInv (σ:=Unit) (fun _=> ([(1,.int .i64 (t:Nat)),(3,.pointer (some ⟨b3,0,none⟩)),(5,.pointer (some ⟨b5,0,none⟩)),(6,.pointer (some ⟨b6,0,none⟩)),(23,.int .i64 (k.nl:Nat)),(24,.int .i64 0)],
       [(b6,true,.cells ⟨[.int .i64 0,.int .i64 0,.slice none 0 0,.slice none 0 0]⟩ 113 (0,0)),(b5,true,.cells ⟨[.int .i64 x,.int .i64 y,.int .i64 z,.int .i64 w]⟩ 47 (0,0)),(b3,true,.cells ⟨[.int .i64 k.gap,.int .i64 k.give,.slice none k.nl gc,.slice (some ⟨tb,0,none⟩) k.nt g2c]⟩ 113 (0,0)),(tb,true,.cells ⟨flatR k.nt (trainL k)++g2j⟩ 47 (0,0))])) (fun _=> 0) ?_ ())
     rintro _ ih;show Tc M St _ _ _ _ [(1,.int .i64 (t:Nat)),(3,.pointer (some ⟨b3,0,none⟩)),(5,.pointer (some ⟨b5,0,none⟩)),(6,.pointer (some ⟨b6,0,none⟩)),(23,.int .i64 (k.nl:Nat)),(24,.int .i64 0)]
       [(b6,true,.cells ⟨[.int .i64 0,.int .i64 0,.slice none 0 0,.slice none 0 0]⟩ 113 (0,0)),(b5,true,.cells ⟨[.int .i64 x,.int .i64 y,.int .i64 z,.int .i64 w]⟩ 47 (0,0)),(b3,true,.cells ⟨[.int .i64 k.gap,.int .i64 k.give,.slice none k.nl gc,.slice (some ⟨tb,0,none⟩) k.nt g2c]⟩ 113 (0,0)),(tb,true,.cells ⟨flatR k.nt (trainL k)++g2j⟩ 47 (0,0))] _ _
     clear ih;rw[show((k.nl:Nat):Int)=0 by rw[h00];rfl];refine U22 ?_;refine .rt hK func111 results111 [_] ?_;refine fun H' hs'=> ⟨hs'.base,none,gc,some ⟨tb,0,none⟩,g2c,F,fc,rfl,hgc,hg2c,?_,?_,fun i hi=> ?_,fun i hi=> ?_⟩
     · show SrcAt H' 3 (.slice none k.nl gc) k.nl (flatR k.nl (rowL k F fc));rw[h00];exact⟨⟨_,_,rfl⟩,rfl,.inl ⟨none,gc,rfl,rfl⟩⟩
     · have hst:stL (flatR k.nt (trainL k)++g2j) (0+((t:Nat):Int).toNat*4) [.int .i64 x,.int .i64 y,.int .i64 z,.int .i64 w]=flatR k.nt (trainL (k.with t x y z w))++g2j:=by
         rw[Nat.zero_add,Int.toNat_natCast];have h1:=flatR_row (f:=trainL k) (g:=trainL (k.with t x y z w)) (sz:=4) (fun _=> rfl) (fun _=> rfl) ht g2j (fun i _ hi=> by simp[trainL,Bk.with,hi]);rw[←h1];simp[trainL,Bk.with]
       have h2:H' tb=some (true,.cells ⟨flatR k.nt (trainL (k.with t x y z w))++g2j⟩ 47 (0,0)):=by
         rw[←hst];exact hs'.get (i:=3) rfl
       exact src_flat (f:=trainL (k.with t x y z w)) (sz:=4) (n:=k.nt) (c:=g2c) (b:=tb) (fun _=> rfl) h2
     · have hi':i<k.nl:=hi;omega
     · have hi':i<k.nl:=hi;omega
   | some lb =>
     refine U10 ?_;refine Tc.db (Tc.loopInv (σ:= { l:List (Gl 38 1)//l.length≤k.nl∧∀i g,l[i]? =some g→g.l=flatR (k.nf i) (freeL (k.free i))∧g.n=k.nf i })
       (fun l=> ([(1,.int .i64 (t:Nat)),(3,.pointer (some ⟨b3,0,none⟩)),(5,.pointer (some ⟨b5,0,none⟩)),(6,.pointer (some ⟨b6,0,none⟩)),(23,.int .i64 (k.nl:Nat)),(24,.int .i64 (l.1.length:Nat))],
         [(b6,true,.cells ⟨[.int .i64 0,.int .i64 0,.slice none 0 0,.slice none 0 0]⟩ 113 (0,0)),(b5,true,.cells ⟨[.int .i64 x,.int .i64 y,.int .i64 z,.int .i64 w]⟩ 47 (0,0)),(b3,true,.cells ⟨[.int .i64 k.gap,.int .i64 k.give,.slice (some ⟨lb,0,none⟩) k.nl gc,.slice (some ⟨tb,0,none⟩) k.nt g2c]⟩ 113 (0,0)),
           (lb,true,.cells ⟨flatR k.nl (rowL k (addrOf l.1 F) (capOf l.1 fc))++gj⟩ 64 (0,0)),(tb,true,.cells ⟨flatR k.nt (trainL k)++g2j⟩ 47 (0,0))]++blsOf l.1)) (fun l=> k.nl-l.1.length) ?_ ⟨[],Nat.zero_le _,by simp⟩)
     rintro⟨l,hll,hlg⟩ ih;show Tc M St _ _ _ _ [(1,.int .i64 (t:Nat)),(3,.pointer (some ⟨b3,0,none⟩)),(5,.pointer (some ⟨b5,0,none⟩)),(6,.pointer (some ⟨b6,0,none⟩)),(23,.int .i64 (k.nl:Nat)),(24,.int .i64 (l.length:Nat))]
         ([(b6,true,.cells ⟨[.int .i64 0,.int .i64 0,.slice none 0 0,.slice none 0 0]⟩ 113 (0,0)),(b5,true,.cells ⟨[.int .i64 x,.int .i64 y,.int .i64 z,.int .i64 w]⟩ 47 (0,0)),(b3,true,.cells ⟨[.int .i64 k.gap,.int .i64 k.give,.slice (some ⟨lb,0,none⟩) k.nl gc,.slice (some ⟨tb,0,none⟩) k.nt g2c]⟩ 113 (0,0)),
           (lb,true,.cells ⟨flatR k.nl (rowL k (addrOf l F) (capOf l fc))++gj⟩ 64 (0,0)),(tb,true,.cells ⟨flatR k.nt (trainL k)++g2j⟩ 47 (0,0))]++blsOf l) _ _
     by_cases c1:l.length=k.nl
     · have f3:Nat.ble (0+((t:Nat):Int).toNat*4+4) (flatR k.nt (trainL k)++g2j).length=true:=by
         refine Nat.ble_eq_true_of_le ?_;rw[List.length_append,flatR_len (f:=trainL k) (sz:=4) (fun _=> rfl),Int.toNat_natCast];omega
       rw[c1];refine U22 ?_;refine .rt hK func111 results111 [_] ?_;refine fun H' hs'=> ⟨hs'.base,some ⟨lb,0,none⟩,gc,some ⟨tb,0,none⟩,g2c,addrOf l F,capOf l fc,rfl,hgc,hg2c,?_,?_,fun i hi=> ?_,fun i hi=> ?_⟩
       · exact src_flat (f:=rowL k (addrOf l F) (capOf l fc)) (sz:=3) (n:=k.nl) (c:=gc) (b:=lb) (fun _=> rfl) (hs'.get (i:=3) rfl)
       · have hst:stL (flatR k.nt (trainL k)++g2j) (0+((t:Nat):Int).toNat*4) [.int .i64 x,.int .i64 y,.int .i64 z,.int .i64 w]=flatR k.nt (trainL (k.with t x y z w))++g2j:=by
           rw[Nat.zero_add,Int.toNat_natCast];have h1:=flatR_row (f:=trainL k) (g:=trainL (k.with t x y z w)) (sz:=4) (fun _=> rfl) (fun _=> rfl) ht g2j (fun i _ hi=> by simp[trainL,Bk.with,hi]);rw[←h1];simp[trainL,Bk.with]
         have h2:H' tb=some (true,.cells ⟨flatR k.nt (trainL (k.with t x y z w))++g2j⟩ 47 (0,0)):=by
           rw[←hst];exact hs'.get (i:=4) rfl
         exact src_flat (f:=trainL (k.with t x y z w)) (sz:=4) (n:=k.nt) (c:=g2c) (b:=tb) (fun _=> rfl) h2
       · have hil:i<l.length:=by rw[c1];exact hi
         have h1:l[i]? =some l[i]:=List.getElem?_eq_getElem hil;have h2:=hlg i _ h1;show k.nf i≤capOf l fc i;unfold capOf;rw[h1];have:=(l[i]).hc;simp only;omega
       · have hil:i<l.length:=by rw[c1];exact hi
         have h1:l[i]? =some l[i]:=List.getElem?_eq_getElem hil;have h2:=hlg i _ h1;have h3:=(l[i]).src (H:=H') (fun y hy=> hs'.at_ y (by have h0:y∈blsOf l:=List.mem_flatMap.2 ⟨_,List.getElem_mem hil,hy⟩;simp[h0]));rw[h2.1,h2.2] at h3;show SrcAt H' 1 (.slice (addrOf l F i) (k.nf i) (capOf l fc i)) (k.nf i) (flatR (k.nf i) (freeL (k.free i)));have h4:Gl.val l[i]=.slice (addrOf l F i) (k.nf i) (capOf l fc i):=by
           unfold addrOf capOf;rw[h1,←h2.2];rfl
         rw[←h4];exact h3
     · have c2:l.length<k.nl:=by omega
       have f1:ldL false 1 (flatR k.nl (rowL k (addrOf l F) (capOf l fc))++gj) (0+((l.length:Nat):Int).toNat*3+2)=some (.slice (F l.length) (k.nf l.length) (fc l.length)):=by
         show _[_]? =_;rw[Nat.zero_add,Int.toNat_natCast,flatR_cell (f:=rowL k (addrOf l F) (capOf l fc)) (sz:=3) (d:=2) (fun _=> rfl) c2 (by decide)];simp[rowL,addrOf,capOf]
       have f2:Nat.ble (0+((l.length:Nat):Int).toNat*3+2+1) (flatR k.nl (rowL k (addrOf l F) (capOf l fc))++gj).length=true:=by
         refine Nat.ble_eq_true_of_le ?_;rw[List.length_append,flatR_len (f:=rowL k (addrOf l F) (capOf l fc)) (sz:=3) (fun _=> rfl),Int.toNat_natCast];omega
       refine U14 ?_;refine Tc.dr [14] [3] mixed rfl ?_;refine .nn 0 ?_;refine .nn 1 ?_;refine .nn 2 ?_;refine .nn 3 ?_;refine .nn 4 ?_;refine .nn 5 ?_;refine .nn 6 ?_;refine .nn 7 ?_;refine .nn 8 ?_;refine .nn 9 ?_;refine .nn 10 ?_;refine Ta.each [11] (by kernel_rfl) rfl ⟨TaOp.mk rfl rfl rfl (Or.callNew Gl.val Gl.bl (fun g:Gl 38 1=> g.l=flatR (k.nf l.length) (freeL (k.free l.length))∧g.n=k.nf l.length) rfl rfl rfl rfl rfl (by decide) gl_nodup (fun H₁ hs₁=> .h (clone140_c M H₁ (F l.length) (k.nf l.length) (fc l.length) _ (by have:=hnf _ c2;omega) ((hB.free _ c2).mono hs₁.base) (flatR_single (freeL_single (k.free l.length)) _))) (fun g hg=> ⟨S2.mk (by apply List.Sublist.cons_cons;apply List.Sublist.cons_cons;apply List.Sublist.cons_cons;apply List.Sublist.cons;exact List.sublist_append_left _ _) (.inr (by exact List.sublist_append_left _ _)),?_⟩)),trivial⟩;refine .nw 12 ?_;refine .nn 13 ?_;refine .e 14 3 ?_;refine .dn ?_;refine U5 ?_;have hst:stL (flatR k.nl (rowL k (addrOf l F) (capOf l fc))++gj) (0+((l.length:Nat):Int).toNat*3+2) (Gl.val g).cells.toList=flatR k.nl (rowL k (addrOf (l++[g]) F) (capOf (l++[g]) fc))++gj:=by
         rw[Nat.zero_add,Int.toNat_natCast];refine flatR_st (f:=rowL k (addrOf l F) (capOf l fc)) (sz:=3) (d:=2) (fun _=> rfl) c2 (by decide) gj (Gl.val g) (fun i _ hi=> ?_) ?_
         · by_cases h1:i<l.length
           · simp only[rowL,addrOf,capOf,List.getElem?_append_left h1]
           · simp only[rowL,addrOf,capOf];rw[List.getElem?_eq_none (by simp;omega),List.getElem?_eq_none (by omega)]
         · simp only[rowL,addrOf,capOf,List.getElem?_concat_length];rw[←hg.2];rfl
       have hbl:blsOf (l++[g])=blsOf l++g.bl:=by simp[blsOf]
       refine Tc.dropB (ih ⟨l++[g],by simp;omega,fun i g' hi=> ?_⟩ (by simp;omega)) ?_ ?_
       · by_cases h1:i<l.length
         · rw[List.getElem?_append_left h1] at hi;exact hlg i g' hi
         · by_cases h2:i=l.length
           · subst h2;rw[List.getElem?_concat_length] at hi;cases hi
             exact hg
           · rw[List.getElem?_eq_none (by simp;omega)] at hi;cases hi
       · refine⟨rfl,rfl,rfl,rfl,rfl,?_,trivial⟩;have hlen:(((l++[g]).length:Nat):Int)=(l.length:Nat)+1:=by simp
         show _=some (Value.int .i64 (((l++[g]).length:Nat):Int));rw[hlen];rfl
       · show List.Sublist (_++blsOf (l++[g])) _;rw[hbl,←hst,←List.append_assoc];exact List.Sublist.refl _
end
end Go.Proofs.YtdnfdeplcjaonaaGreatDoor
namespace Go.Proofs.YtdnfdeplcjaonaaGreatDoor
open Go.RL Go.Proofs.Tryz
set_option maxRecDepth 10000
def Bk.earsL(k:Bk):Nat→List Ear
 | 0=> [⟨[],0,false⟩]
 | i+1=> (k.earsL i).flatMap fun e=> (k.can i).map fun x=> e.hear x.1 x.2
theorem Bk.mem_earsL(k:Bk):∀n e,e∈k.earsL n↔k.earsS n e
 | 0,e=> by simp[Bk.earsL,Bk.earsS]
 | n + 1,e=> by
   simp only[Bk.earsL,Bk.earsS,List.mem_flatMap,List.mem_map];constructor
   · rintro⟨e0,h0,x,hx,rfl⟩;exact⟨e0,(k.mem_earsL n e0).1 h0,x,hx,rfl⟩
   · rintro⟨e0,h0,x,hx,rfl⟩;exact⟨e0,(k.mem_earsL n e0).2 h0,x,hx,rfl⟩
def distinct:List Int→List Int
 | []=> []
 | x::t=> if x∈distinct t then distinct t else x::distinct t
theorem mem_distinct {x:Int}:∀l:List Int,x∈distinct l↔x∈l
 | []=> Iff.rfl
 | y ::t=> by
   unfold distinct;split
   · rename_i h
     rw[List.mem_cons,mem_distinct t];constructor
     · exact .inr
     · rintro(rfl|h')
       · exact(mem_distinct t).1 h
       · exact h'
   · rw[List.mem_cons,List.mem_cons,mem_distinct t]
theorem distinct_nodup:∀l:List Int,(distinct l).Nodup
 | []=> List.nodup_nil
 | y ::t=> by
   unfold distinct;split
   · exact distinct_nodup t
   · rename_i h
     exact List.nodup_cons.2 ⟨h,distinct_nodup t⟩
def Bk.resL(k:Bk):List Int:=distinct ((k.earsL k.nt).map fun e=> firstI (k.line e.heard))
theorem Bk.mem_resL(k:Bk)(z:Int):z∈k.resL↔k.resS z:=by
 unfold Bk.resL Bk.resS;rw[mem_distinct,List.mem_map];constructor
 · rintro⟨e,h,rfl⟩;exact⟨e,(k.mem_earsL _ e).1 h,rfl⟩
 · rintro⟨e,h,rfl⟩;exact⟨e,(k.mem_earsL _ e).2 h,rfl⟩
theorem resF_size {es:Array MapEntry}{cl:Nat}{S:Int→Prop}(h:MapOk es cl (resF S)){l:List Int}(hl:l.Nodup)(hS:∀z,z∈l↔S z):es.size=l.length:=by
 have hp:(es.toList.map (·.key)).Perm (l.map fun z=> Value.int .i64 z):=by
   rw[List.perm_ext_iff_of_nodup h.keys (List.Pairwise.map _ (fun a b hab=> by simpa using hab) hl)];intro x;rw[List.mem_map,List.mem_map];constructor
   · rintro⟨e,he,rfl⟩;obtain⟨z,h1,h2,_⟩:=resF_keys h e he;exact⟨z,(hS z).2 h1,h2.symm⟩
   · rintro⟨z,hz,rfl⟩;obtain⟨e,he,h2,_⟩:=(h.mem (.int .i64 z) (.bool true)).1 ⟨z,(hS z).1 hz,rfl,rfl⟩;exact⟨e,he,h2⟩
 have:=hp.length_eq;simpa using this
theorem Bk.res_size {k:Bk}{es:Array MapEntry}{cl:Nat}(h:MapOk es cl (resF k.resS)):es.size=k.resL.length:=resF_size h (distinct_nodup _) k.mem_resL
end Go.Proofs.YtdnfdeplcjaonaaGreatDoor
namespace Go.RL
open Go.Conc
section
variable {P:Program}{M:Md P}{St:View→Goroutine→Prop}{n:Nat}{b:FB}{H₀ H₁:View}{cs:List Frame}{R:Rg}{L:Bl}{ds:List Deferred}{k:List Item}{md:Region.Mode}{ops:Array Oper}
theorem S2.mkL {B:List Nat}{Ls Lb L₁:Bl}{listed:Array Bool}(hle:H₀.le H₁)(h1:Ls.Sublist L₁)(h2:(B.all fun j=> !(listed.getD j true))=false∨Lb.Sublist L₁):∀H,SymSt H₁ L₁ H→S2 H₀ B Ls Lb listed H:=fun H hs=> S2.mk h1 h2 H (hs.lower hle)
theorem Ta.callL(i:Nat){B:List Nat}{Hs:View}{Ls Lb:Bl}{o:Oper}{d:Nat}{fuel:Nat}{listed:Array Bool}{cl:Go.Call}{x:Operand}{fv:Value}{az:List Value}(hr:Region.ready md ops listed= [i])(hi:ops[i]? =some o)
   (hw:wantB (ops.toList.map (fun o:Oper=> o.dst)) R o=some true) (hop:o.op=.call cl) (hcl:cl.callee=.value x) (hx:evR R x=some fv) (has:evRs R cl.args.toList=some az) (hd:o.dst=some d) (hn:d<n)
   {Q:Value→View→Prop} (hc:FnT M fv az H₀ Q) (hle:∀v H₁,Q v H₁→Hs.le H₁) (h1:Ls.Sublist L) (h2:(B.all fun j=> !((listed.setIfInBounds i true).getD j true))=false∨Lb.Sublist L)
   (hk:∀v H₁,Q v H₁→Ta M St n b H₁ cs (S2 Hs B Ls Lb) md ops fuel (listed.setIfInBounds i true) ((d,v)::R) L ds k):
   Ta M St n b H₀ cs (S2 Hs B Ls Lb) md ops (fuel+1) listed R L ds k:=fun H tmps hs hr' _ H₂ h2' _=> by
 have hs:=hs.mono h2';refine⟨fun e=> (by rw[hr] at e;cases e),fun j hj o' ho'=> ?_⟩;rw[hr] at hj;have:j=i:=by simpa using hj
 subst this;rw[hi] at ho';cases ho'
 refine⟨(by rw[hop];rfl),?_⟩;have hw':Region.wanted o (yielded ops tmps)=true:=wantB_ok (fun j=> by
   simp only[List.getElem?_map,Array.getElem?_toList];cases ops[j]? <;> rfl) hr' hw
 rw[if_pos hw'];obtain⟨F,rfl,hdj,hF⟩:=hs.split;have e1:=hr'.ev hx;have hmap:cl.args.map (evT tmps)=az.toArray:=by
   apply Array.ext'
   simpa using hr'.evs has
 have hex:execOp (evT tmps) o=(Deferred.ofValue fv az.toArray).bind fun d=> invoke d.target d.args:=by
   have h1:execOp (evT tmps) o=(resolve (evT tmps) cl o.type).bind fun d=> invoke d.target d.args:=by unfold execOp;rw[hop];rfl
   rw[h1];unfold resolve;rw[hcl];simp only[e1,hmap]
 unfold OpRun;rw[hex];have fin:∀v H'',Beside F Q v H''→S2 Hs B Ls Lb (listed.setIfInBounds j true) H''∧AnyT M md ops (S2 Hs B Ls Lb) (fun tmps H=> T M St H (G (b.at tmps ds k) cs)) fuel (listed.setIfInBounds j true) (putT tmps o.dst v) H'':=by
   rintro v H'' ⟨H₁,rfl,hd',hq⟩;have hsy:SymSt H₁ L (H₁.plus F):=.joined hs.nodup hF hd';have hS:S2 Hs B Ls Lb (listed.setIfInBounds j true) (H₁.plus F):=S2.mkL (hle v H₁ hq) h1 h2 _ hsy;refine⟨hS,?_⟩;rw[hd];exact hk v H₁ hq _ _ hsy (hr'.put hn v) hS
 refine vwp_mono _ (fun nx H' hn'=> ?_) (hc.frame hdj);cases nx <;> first
   | exact hn'.elim
   | exact CallT.mono hn' fin
   | exact GoT.mono hn' fin
theorem Tc.drE {id:Nat}{fuel:Nat}(B E E':List Nat)(hm:P.follows .mixedOrders=true)(hf:ops.size=fuel)(h:Ta M St n b H₀ cs (S2 H₀ B (eraseL L E) (eraseL L E')) .any ops fuel (Array.replicate fuel false) R L ds k):
   Tc M St n b H₀ cs R L ds (.code (.region id ops true)::k):=fun H tmps hs hr=> by
 subst hf;refine .region_draw fun t=> ?_;simp only[Region.schedule,hm,Bool.true_or,if_true];have hS:=S2.mk (H₀:=H₀) (B:=B) (listed:=Array.replicate ops.size false) (eraseL_sub E L) (.inr (eraseL_sub E' L)) H hs;exact(h H tmps hs hr hS).sound _ t _ _ _ hS
end
end Go.RL
namespace Go.Proofs.YtdnfdeplcjaonaaGreatDoor
open Go.RL Go.Proofs.Tryz
set_option maxRecDepth 10000
set_option maxHeartbeats 16000000
def Bk.pauseOf(k:Bk)(d:Nat):Int:=if d=0 then 0 else if d=1 then k.gap else k.give
def Bk.leftOf(k:Bk)(t:Nat)(x:Nat×Nat):Nat:=(k.with t x.1 x.1 (k.pauseOf x.2) (k.pauseOf x.2)).resL.length
def Bk.left(k:Bk)(t:Nat):Nat:=(k.can t).foldl (fun m x=> max m (k.leftOf t x)) 0
theorem Bk.leftOk {k:Bk}(hok:k.trainsOk)(hg1:0≤k.gap∧k.gap≤99)(hg2:0≤k.give∧k.give≤99){t:Nat}{x:Nat×Nat}(h1:1≤x.1)(h2:x.1≤12):(k.with t x.1 x.1 (k.pauseOf x.2) (k.pauseOf x.2)).trainsOk:=fun i hi=> by
 have h3:=hok i hi;have hp:0≤k.pauseOf x.2∧k.pauseOf x.2≤99:=by
   unfold Bk.pauseOf;split
   · omega
   · split <;> omega
 simp only[Bk.with];split
 · unfold trainOk;simp only[Bool.and_eq_true,decide_eq_true_eq];omega
 · exact h3
section
variable(M:Md prog)(H:View)
theorem left_c(k:Bk)(A:Option Addr)(lc:Nat)(B:Option Addr)(tc:Nat)(F:Nat→Option Addr)(fc:Nat→Nat)(hB:BookAt H k A lc B tc F fc)(hn:k.nl≤1000)(hnf:∀i,i<k.nl→k.nf i≤1000)(hok:k.trainsOk)(h6:k.nt≤6)(hg1:0≤k.gap∧k.gap≤99)(hg2:0≤k.give∧k.give≤99)(t:Nat)(ht:t<k.nt):
   CallT M 106 #[k.val A lc B tc,.int .i64 (t:Nat)] H (fun v H'=> H.le H'∧v=.int .i64 (k.left t:Nat)):=by
 have hT:=hB.trainsAt;have htr:=k.train_in hok ht;refine .en func106 ntmps106 fun St c cs hK=> ?_;refine U2 ?_;refine .bo fun b2=> ?_;refine .bo fun b3=> ?_;refine U11 ?_;refine .al fun b5=> ?_;refine U4 ?_;refine .al fun b6=> ?_;refine U7 ?_;refine To.callF rfl rfl rfl rfl rfl rfl (by decide) (FnT.h (can_c M H k A lc B tc hT t ht)) (fun v H₁ hv=> ?_);obtain⟨hle1,c5,c2,rfl,hcap⟩:=hv;refine U ?_;have hit:=fun(H':View) (hc:CapC (trainV (k.pf t) (k.pt t) (k.qf t) (k.qt t)) (k.val A lc B tc) c5 c2 H')=> can_it M H' k A lc B tc t (k.pf t).toNat (k.pt t).toNat _ _ (by omega) (by omega) (by omega) rfl rfl (k.kind_le _) c5 c2 hc;refine U ?_;refine Tc.db (R':= [(2,.pointer (some ⟨b2,0,none⟩)),(3,.pointer (some ⟨b3,0,none⟩)),(5,.pointer (some ⟨b5,0,none⟩)),(6,.pointer (some ⟨b6,0,none⟩)),(18,canF c5 c2)]) (L':= [(b6,true,.cells ⟨[.int .i64 ((0:Nat):Int)]⟩ 3 (0,0)),(b5,true,.cells ⟨[.int .i64 0,.int .i64 k.gap,.int .i64 k.give]⟩ 213 (0,0)),(b3,true,.cells ⟨[.int .i64 (t:Nat)]⟩ 3 (0,0)),(b2,true,.cells ⟨(k.val A lc B tc).cells.toList⟩ 113 (0,0))]) ?_;refine Tc.rangeL (A:= []) (ts:= [19,20]) (xs:=k.can t) (fun rest H₄ L₄=> ∃m:Nat,L₄= [(b6,true,.cells ⟨[.int .i64 (m:Int)]⟩ 3 (0,0)),(b5,true,.cells ⟨[.int .i64 0,.int .i64 k.gap,.int .i64 k.give]⟩ 213 (0,0)),(b3,true,.cells ⟨[.int .i64 (t:Nat)]⟩ 3 (0,0)),(b2,true,.cells ⟨(k.val A lc B tc).cells.toList⟩ 113 (0,0))]
     ∧rest.foldl (fun m x=> max m (k.leftOf t x)) m=k.left t∧CapC (trainV (k.pf t) (k.pt t) (k.qf t) (k.qt t)) (k.val A lc B tc) c5 c2 H₄∧H₁.le H₄) (fun _ _ _=> False) rfl rfl rfl rfl hit (fun _ _=> CapC.le _ _) (fun _ _ _ ⟨_,_,_,h,_⟩=> h) rfl (fun _ _=> rfl)
     ⟨0,rfl,rfl,hcap,View.le_refl _⟩ ?_ ?_ (fun _ _ _ _ h=> h.elim)
 · rintro r x rest _ l tmps asg bdy H₄ _ hx ⟨m,rfl,q2,q3,q4⟩ Q St1 cc1 cs1 hK1 q q';have hxin:=k.can_in hok ht hx;have hx1:=(mem_canL.1 hx).1.1;have hx2:1≤x.1:=by omega
   obtain⟨n,d⟩:=x;have hok':=k.leftOk hok hg1 hg2 (t:=t) hx2 hxin.1;simp only at hxin hx1 hx2 hok' q2;have f1:ldL false 1 [Value.int .i64 0,.int .i64 k.gap,.int .i64 k.give] (0+((d:Nat):Int).toNat*1)=some (.int .i64 (k.pauseOf d)):=by
     rcases(by omega:d=0∨d=1∨d=2) with rfl|rfl|rfl <;> rfl
   refine U7 ?_;refine Tc.beginRound (i:=0) rfl rfl rfl ?_;refine U ?_;refine Tc.dr [14] [2] mixed rfl ?_;refine .nn 0 ?_;refine .nn 1 ?_;refine .nn 2 ?_;refine .nn 3 ?_;refine .z 4 rfl (OpV.takeCall rfl rfl rfl rfl (fun H hs=> .h (one_c M H (n:Nat)))) ?_;refine .nn 5 ?_;refine .nn 6 ?_;refine .nn 7 ?_;refine .z 8 rfl (OpV.takeCall rfl rfl rfl rfl (fun H hs=> .h (one_c M H (k.pauseOf d)))) ?_;refine .nn 9 ?_;refine Ta.callL 10 (by kernel_rfl) rfl rfl rfl rfl rfl rfl rfl (by decide) (FnT.h (with_c M H₄ k A lc B tc F fc (hB.le (View.le_trans hle1 q4)) hn (by omega) hnf t ht (n:Nat) (n:Nat) (k.pauseOf d) (k.pauseOf d))) (by intro _ _ hh;exact hh.1) (by apply List.Sublist.cons_cons;apply List.Sublist.cons_cons;apply List.Sublist.cons;exact List.Sublist.refl _) (.inr (by exact List.Sublist.refl _)) (fun v5 H₅ hv5=> ?_);obtain⟨hle5,A',lc',B',tc',F',fc',rfl,hB'⟩:=hv5;refine Ta.callL 11 (by kernel_rfl) rfl rfl rfl rfl rfl rfl rfl (by decide) (FnT.h (results_c M H₅ (k.with t (n:Nat) (n:Nat) (k.pauseOf d) (k.pauseOf d)) A' lc' B' tc' hB'.rowsAt hn hB'.trainsAt hok' h6)) (by intro _ _ hh;exact View.le_trans (by assumption) hh.1) (by apply List.Sublist.cons_cons;apply List.Sublist.cons_cons;apply List.Sublist.cons;exact List.Sublist.refl _) (.inr (by exact List.Sublist.refl _)) (fun v6 H₆ hv6=> ?_);have hle46:H₄.le H₆:=View.le_trans hle5 hv6.1;obtain⟨hle6,m',es,cl,rfl,⟨fm,g5⟩,g6⟩:=hv6;have hz:(if((es.size:Nat):Int)>(m:Int) then((es.size:Nat):Int) else(m:Int))=((max m (k.leftOf t (n,d)):Nat):Int):=by
     have h1:=Bk.res_size g6;have h2:k.leftOf t (n,d)=es.size:=h1.symm;rw[h2];split <;> omega
   refine Ta.each [12] (by kernel_rfl) rfl ⟨TaOp.mk rfl rfl rfl (Or.ofV (OpV.lenMap (E:=en) (es:=es) rfl rfl rfl rfl rfl (fun H hs=> ⟨fm,hs.base _ _ g5⟩) rfl rfl) rfl (by decide) ⟨S2.mkL (by assumption) (by apply List.Sublist.cons_cons;apply List.Sublist.cons_cons;apply List.Sublist.cons;exact List.Sublist.refl _) (.inr (by exact List.Sublist.refl _)),?_⟩),trivial⟩;refine Ta.each [13] (by kernel_rfl) rfl ⟨TaOp.mk rfl rfl rfl (Or.ofV (OpV.max rfl rfl rfl rfl rfl rfl (by assumption)) rfl (by decide) ⟨S2.mkL (by assumption) (by apply List.Sublist.cons_cons;apply List.Sublist.cons_cons;apply List.Sublist.cons;exact List.Sublist.refl _) (.inr (by exact List.Sublist.refl _)),?_⟩),trivial⟩;refine Ta.each [14] (by kernel_rfl) rfl ⟨TaOp.mk rfl rfl rfl (.st 2 (zz:=⟨S2.mkL (by assumption) (by apply List.Sublist.cons_cons;apply List.Sublist.cons_cons;apply List.Sublist.cons;exact List.Sublist.refl _) (.inl (by kernel_rfl)),?_⟩)),trivial⟩;refine .dn ?_;refine U ?_;refine Tc.leaveRound hK1 (i:=0) rfl (.inl ⟨rfl,rfl⟩) (fun H' hs=> q H' H₆ _ hs ⟨max m (k.leftOf t (n,d)),rfl,q2,CapC.le _ _ hle46 q3,View.le_trans q4 hle46⟩)
 · rintro r H₄ _ ⟨m,rfl,q2,q3,q4⟩;have q5:m=k.left t:=q2;subst q5;refine U6 ?_;refine Tc.retD (E:=en) (i:=0) hK func106 results106 (vs:= [_]) rfl ⟨rfl,trivial⟩ ?_;exact fun H' hs=> ⟨View.le_trans hle1 (View.le_trans q4 hs.base),rfl⟩
end
def Bk.fateAt(k:Bk)(n:Nat):Option Int:=match distinct ((k.earsL n).map fun e=> k.fate e (decide (n=k.nt))) with
 | [f]=> if f= -2 then none else some f
 | _=> none
def Bk.settledTo(k:Bk):Nat→Option (Nat×Int)
 | 0=> none
 | n+1=> (k.settledTo n).or ((k.fateAt n).map fun f=> (n,f))
def Bk.settled(k:Bk):Option (Nat×Int):=k.settledTo (k.nt+1)
theorem Bk.settledTo_stays {k:Bk}{j:Nat}{x:Nat×Int}(h:k.settledTo j=some x):∀m,j≤m→k.settledTo m=some x:=by
 intro m hm;induction m with
 | zero=>
   have:j=0:=by omega
   subst this;exact h
 | succ m ih=>
   by_cases e:j=m+1
   · subst e;exact h
   · rw[Bk.settledTo,ih (by omega)];rfl
theorem distinct_one {l:List Int}{z:Int}(h0:z∈l)(h:∀y∈l,y=z):distinct l= [z]:=by
 have hm:∀y,y∈distinct l↔y∈l:=fun y=> mem_distinct l;have hn:=distinct_nodup l;cases hd:distinct l with
 | nil=>
   have:=(hm z).2 h0;rw[hd] at this;cases this
 | cons a t=>
   rw[hd] at hm hn;have ha:a=z:=h a ((hm a).1 (List.mem_cons_self ..));cases t with
   | nil=> rw[ha]
   | cons b t'=>
     have hb:b=z:=h b ((hm b).1 (by simp));rw[ha,hb] at hn;simp at hn
theorem Bk.fateAt_some {k:Bk}{n:Nat}{f:Int}(hf:f≠ -2){e0:Ear}(h0:k.earsS n e0)(h:∀e,k.earsS n e→k.fate e (decide (n=k.nt))=f):k.fateAt n=some f:=by
 unfold Bk.fateAt;rw[distinct_one (z:=f)]
 · simp only;rw[if_neg hf]
 · exact List.mem_map.2 ⟨e0,(k.mem_earsL n e0).2 h0,h e0 h0⟩
 · intro y hy;obtain⟨e,he,rfl⟩:=List.mem_map.1 hy;exact h e ((k.mem_earsL n e).1 he)
theorem Bk.fateAt_all {k:Bk}{n:Nat}{f:Int}(h:k.fateAt n=some f):f≠ -2∧∀e,k.earsS n e→k.fate e (decide (n=k.nt))=f:=by
 unfold Bk.fateAt at h;split at h
 · rename_i g hg
   split at h
   · cases h
   · rename_i hne
     cases h
     refine⟨hne,fun e he=> ?_⟩;have:=(mem_distinct _).2 (List.mem_map.2 ⟨e,(k.mem_earsL n e).2 he,rfl⟩:k.fate e (decide (n=k.nt))∈(k.earsL n).map fun e=> k.fate e (decide (n=k.nt)));rw[hg] at this;simpa using this
 · cases h
theorem Bk.fateAt_none2 {k:Bk}{n:Nat}{e e':Ear}(h:k.earsS n e)(h':k.earsS n e')(hne:k.fate e (decide (n=k.nt))≠k.fate e' (decide (n=k.nt))):k.fateAt n=none:=by
 cases hq:k.fateAt n with
 | none=> rfl
 | some f=>
   obtain⟨_,h2⟩:=Bk.fateAt_all hq;exact(hne ((h2 e h).trans (h2 e' h').symm)).elim
theorem Bk.fateAt_none1 {k:Bk}{n:Nat}{e:Ear}(h:k.earsS n e)(hne:k.fate e (decide (n=k.nt))= -2):k.fateAt n=none:=by
 cases hq:k.fateAt n with
 | none=> rfl
 | some f=>
   obtain⟨h1,h2⟩:=Bk.fateAt_all hq;exact(h1 ((h2 e h).symm.trans hne)).elim
theorem Bk.ears_some(k:Bk)(hok:k.trainsOk):∀n,n≤k.nt→∃e,k.earsS n e
 | 0,_=> ⟨_,rfl⟩
 | n + 1,hn=> by
   obtain⟨e0,h0⟩:=k.ears_some hok n (by omega);obtain⟨h1,h2,h3⟩:=k.train_in hok (i:=n) (by omega);refine⟨_,e0,h0,((k.pf n).toNat,k.kind (k.qf n)),mem_canL.2 ⟨⟨Nat.le_refl _,by omega⟩,Nat.le_refl _,?_⟩,rfl⟩;simp only;unfold Bk.kind;split
   · omega
   · split
     · split
       · omega
       · split <;> omega
     · split
       · omega
       · split
         · omega
         · omega
theorem Bk.alarm0 {k:Bk}(h:k.alarm=0):k.pausesA=0∧k.linesA=0∧k.trainsA=0:=by
 unfold Bk.alarm at h;split at h
 · rename_i h1
   split at h
   · rename_i h2
     exact⟨h1,h2,h⟩
   · rename_i h2
     exact(h2 h).elim
 · rename_i h1
   exact(h1 h).elim
theorem firstTo_none {p:Nat→Bool}:∀n,firstTo p n=none↔∀i,i<n→p i=false
 | 0=> ⟨fun _ i hi=> by omega,fun _=> rfl⟩
 | n + 1 => by
   rw[firstTo];constructor
   · intro h i hi;cases hq:firstTo p n with
     | some j=> rw[hq] at h;cases h
     | none=>
       rw[hq] at h;by_cases e:i=n
       · subst e;cases hp:p i with
         | false=> rfl
         | true=> rw[hp] at h;cases h
       · exact(firstTo_none n).1 hq i (by omega)
   · intro h;rw[(firstTo_none n).2 (fun i hi=> h i (by omega)),h n (by omega)];rfl
theorem Bk.valid {k:Bk}(h:k.alarm=0):(1≤k.gap∧k.gap≤99∧k.gap+1≤k.give∧k.give≤99)∧k.nl≤6∧k.nt≤6∧k.trainsOk:=by
 obtain⟨h1,h2,h3⟩:=Bk.alarm0 h;unfold Bk.pausesA at h1;unfold Bk.linesA at h2;unfold Bk.trainsA at h3;refine⟨?_,?_,?_,?_⟩
 · split at h1
   · omega
   · cases h1
 · split at h2
   · cases h2
   · omega
 · split at h3
   · cases h3
   · omega
 · split at h3
   · cases h3
   · split at h3
     · cases h3
     · rename_i hq
       intro i hi;have h4:firstTo k.trainBad k.nt=none:=by
         cases hz:firstTo k.trainBad k.nt with
         | none=> rfl
         | some j=> rw[hz] at hq;exact(hq rfl).elim
       have h5:=(firstTo_none _).1 h4 i hi;unfold Bk.trainBad at h5;simpa using h5
def settledV:Option (Nat×Int)→Value
 | none=> .tuple ⟨[.int .i64 0,.int .i64 0,.bool false,.int .i64 0]⟩
 | some (n,f)=> .tuple ⟨[.int .i64 (n:Nat),.int .i64 f,.bool true,.int .i64 0]⟩
theorem map_find {es:Array MapEntry}{cl:Nat}{F:Value→Value→Prop}(h:MapOk es cl F){e:MapEntry}(he:e∈es.toList):es.find? (fun x=> x.born==e.born)=some e:=by
 rw[←Array.find?_toList];cases hf:es.toList.find? (fun x=> x.born==e.born) with
 | none=> have:=List.find?_eq_none.1 hf e he;simp at this
 | some e'=>
   have h3:=List.mem_of_find?_eq_some hf;have h4:=List.find?_some hf;simp only[beq_iff_eq] at h4;obtain⟨i,hi,rfl⟩:=List.mem_iff_getElem.1 h3;obtain⟨j,hj,rfl⟩:=List.mem_iff_getElem.1 he;have hb:=h.borns;have hi':i<(es.toList.map (·.born)).length:=by rw[List.length_map];exact hi
   have hj':j<(es.toList.map (·.born)).length:=by rw[List.length_map];exact hj
   have:(es.toList.map (·.born))[i]=(es.toList.map (·.born))[j]:=by rw[List.getElem_map,List.getElem_map];exact h4
   have:=(List.getElem_inj hb).1 this;subst this;rfl
section
variable(M:Md prog)(H:View)
theorem Settled_c(k:Bk)(A:Option Addr)(lc:Nat)(B:Option Addr)(tc:Nat)(hk:BkAt H k A lc B tc)(hn:k.small)(hG:Glob H)(ha:k.alarm=0):
   CallT M 31 #[k.val A lc B tc] H (fun v H'=> H.le H'∧v=settledV k.settled):=by
 obtain⟨_,hnl,hnt,hok⟩:=Bk.valid ha;refine .en func31 ntmps31 fun St c cs hK=> ?_;refine U2 ?_;refine .bo fun b1=> ?_;refine U5 ?_;refine Tc.scope ?_;refine U3 ?_;refine .c rfl rfl rfl rfl (fun H hs=> .h (open_yes M H k A lc B tc (hk.le hs.base) hn (glob_le hG hs.base) ha)) ?_;refine U3 ?_;refine .al fun b6=> ?_;refine U12 ?_;refine Tc.label ?_;refine U10 ?_;refine Tc.db (Tc.loopB (σ:= { s:View×Nat//H.le s.1∧s.2≤k.nt+1∧k.settledTo s.2=none })
   (fun s=> (s.1.1,[(1,.pointer (some ⟨b1,0,none⟩)),(6,.pointer (some ⟨b6,0,none⟩)),(22,.int .i64 ((k.nt+1:Nat):Int)),(23,.int .i64 (s.1.2:Nat))],[(b6,true,.cells ⟨(k.val A lc B tc).cells.toList⟩ 113 (0,0)),(b1,true,.cells ⟨(k.val A lc B tc).cells.toList⟩ 25 (0,0))])) (fun s=> k.nt+1-s.1.2) ?_ ⟨(H,0),View.le_refl _,Nat.zero_le _,rfl⟩)
 rintro⟨⟨H₁,n⟩,g1,g2,g3⟩ ih₁;simp only at g1 g2 g3;show Tc M St _ _ H₁ _ [(1,.pointer (some ⟨b1,0,none⟩)),(6,.pointer (some ⟨b6,0,none⟩)),(22,.int .i64 ((k.nt+1:Nat):Int)),(23,.int .i64 (n:Nat))] [(b6,true,.cells ⟨(k.val A lc B tc).cells.toList⟩ 113 (0,0)),(b1,true,.cells ⟨(k.val A lc B tc).cells.toList⟩ 25 (0,0))] _ _;by_cases c1:n=k.nt+1
 · have e:k.settled=none:=by unfold Bk.settled;rw[←c1];exact g3
   subst c1;rw[e] at hK;refine U14 ?_;refine .rt hK func31 results31 [_,_,_,_] ?_;exact fun H' hs=> ⟨View.le_trans g1 hs.base,rfl⟩
 · have c2 : n ≤k.nt:=by omega
   have hover:intBin .eql .i64 ((n:Nat):Int) ((k.nt:Nat):Int)=some (.bool (decide (n=k.nt))):=by
     by_cases c:n=k.nt
     · rw[decide_eq_true c];exact eql_t (by omega)
     · rw[decide_eq_false c];exact eql_f (by omega)
   refine U16 ?_;refine .e (Or.makeMap rfl rfl (by decide) (fun mf=> ?_));refine U7 ?_;refine To.callF rfl rfl rfl rfl rfl rfl (by decide) (FnT.h (ears_c M H₁ k A lc B tc (hk.trains.le g1) hok hnt n c2)) (fun v H₂ hv=> ?_);obtain⟨hle,m,es,cl,rfl,⟨fm,q3⟩,q4⟩:=hv;refine .e (Or.range (E:=en) (es:=es) (cl:=cl) rfl rfl (fun H hs=> ⟨fm,hs.base _ _ q3⟩) rfl rfl rfl (by decide) (fun it=> ?_));refine U2 ?_;refine Tc.db (Tc.loopInv (σ:= { s:Array Nat×Array MapEntry×Nat×Option Int//MapOk s.2.1 s.2.2.1 (resF fun z=> s.2.2.2=some z)∧(∀z,s.2.2.2=some z→z≠ -2∧∃e,k.earsS n e∧k.fate e (decide (n=k.nt))=z)∧∀e,k.earsS n e→(s.2.2.2=some (k.fate e (decide (n=k.nt)))∨∃me∈unseen es s.1,me.key=e.val) })
     (fun s=> ([(1,.pointer (some ⟨b1,0,none⟩)),(6,.pointer (some ⟨b6,0,none⟩)),(7,.int .i64 (n:Nat)),(8,.map (some mf)),(22,.int .i64 ((k.nt+1:Nat):Int)),(23,.int .i64 (n:Nat)),(30,.pointer (some ⟨it,0,none⟩))],[(it,true,.mapIter (some m) cl s.1.1 cl),(mf,true,.map s.1.2.1 s.1.2.2.1),(b6,true,.cells ⟨(k.val A lc B tc).cells.toList⟩ 113 (0,0)),(b1,true,.cells ⟨(k.val A lc B tc).cells.toList⟩ 25 (0,0))])) (fun s=> (unseen es s.1.1).length) ?_ ⟨(#[],#[],0,none),MapOk.nil.congr (by rintro a b;simp[resF]),(fun z h=> by cases h),fun e he=> by
       rw[unseen_start];obtain⟨me,h1,h2,_⟩:=(q4.mem e.val (.bool true)).1 ⟨e,he,rfl,rfl⟩;exact .inr ⟨me,h1,h2⟩⟩)
   rintro⟨⟨seen,es2,cl2,o⟩,p2,p3,p4⟩ ih₂;simp only at p2 p3 p4;show Tc M St _ _ H₂ _ [(1,.pointer (some ⟨b1,0,none⟩)),(6,.pointer (some ⟨b6,0,none⟩)),(7,.int .i64 (n:Nat)),(8,.map (some mf)),(22,.int .i64 ((k.nt+1:Nat):Int)),(23,.int .i64 (n:Nat)),(30,.pointer (some ⟨it,0,none⟩))] [(it,true,.mapIter (some m) cl seen cl),(mf,true,.map es2 cl2),(b6,true,.cells ⟨(k.val A lc B tc).cells.toList⟩ 113 (0,0)),(b1,true,.cells ⟨(k.val A lc B tc).cells.toList⟩ 25 (0,0))] _ _;refine U2 ?_;refine .e (Or.next (es:=es) 0 rfl rfl rfl (fun H hs=> ⟨fm,hs.base _ _ q3⟩) q4.lt rfl (by decide) (fun me he hse=> ?_) (fun hall=> ?_))
   · have hp :=unseen_next q4.borns he hse;obtain⟨e0,u1,u2,_⟩:=earF_keys q4 me he;have hfind:=earF_find q4 he;have hf:=fun(H':View) (h':H₂.le H')=> fate_c M H' k A lc B tc (hk.rows.le (View.le_trans g1 (View.le_trans hle h'))) hn.nl e0 (decide (n=k.nt));obtain⟨z,hz⟩:∃z,k.fate e0 (decide (n=k.nt))=z:=⟨_,rfl⟩
     rw[hz] at hf;refine U8 ?_;refine .e (Or.entry (es:=es) (e:=me) (st:=me.born) rfl rfl (fun H hs=> ⟨true,hs.get (i:=0) rfl⟩) (fun H hs=> ⟨fm,hs.base _ _ q3⟩) (by simp) hfind rfl (by decide) ?_);rw[u2];refine U ?_;refine .al fun b9=> ?_;refine U12 ?_;refine .c rfl rfl rfl rfl (fun H hs=> .h (hf H hs.base)) ?_;refine .e (Or.mapUpdate (E:=en) 2 1 rfl rfl rfl rfl rfl rfl rfl (by decide) (int_key _) (resF_flat p2) rfl (fun r hr=> ?_));obtain⟨es4,cl4,e4,q6⟩:=p2.put (.bool true) hr;rw[e4];refine U ?_;have q7:MapOk es4 cl4 (resF fun y=> y=z∨o=some y):=q6.congr (resF_put _ _);have next0:k.fateAt n=none→k.settledTo (n+1)=none:=fun h=> by rw[Bk.settledTo,g3,h];rfl
     by_cases d1:∃y,o=some y∧y≠z
     · obtain⟨y,d2,d3⟩:=d1;obtain⟨_,e1,d4,d5⟩:=p3 y d2;have hno:=next0 (Bk.fateAt_none2 d4 u1 (by rw[d5,hz];exact d3));have hsz:es4.size=2:=resF_size q7 (l:= [z,y]) (by simp;exact fun h=> d3 h.symm) (fun x=> by rw[d2];simp;constructor <;> (rintro(h|h) <;> simp[h]));refine U3 ?_;refine .x (OpV.lenMap (E:=en) (es:=es4) rfl rfl rfl rfl rfl (fun H hs=> ⟨true,hs.get (i:=2) rfl⟩) rfl rfl) ?_;refine U12 ?_;exact Tc.db (ih₁ ⟨(H₂,n+1),View.le_trans g1 hle,by simp only;omega,hno⟩ (by simp only;omega))
     · have q8 :MapOk es4 cl4 (resF fun y=> y=z):=by
         have e:(fun y=> y=z∨o=some y)=fun y=> y=z:=by
           funext y
           refine propext ⟨?_,.inl⟩;rintro(h|h)
           · exact h
           · exact Classical.byContradiction fun h'=> d1 ⟨y,h,h'⟩
         rw[←e];exact q7
       have hsz:es4.size=1:=resF_size q8 (l:= [z]) (by simp) (fun x=> by simp);by_cases d2:z= -2
       · have hno:=next0 (Bk.fateAt_none1 u1 (hz.trans d2));refine U3 ?_;refine .x (OpV.lenMap (E:=en) (es:=es4) rfl rfl rfl rfl rfl (fun H hs=> ⟨true,hs.get (i:=2) rfl⟩) rfl rfl) ?_;refine U3 ?_;refine .x (OpV.lookup (E:=en) 1 (es:=es4) (v:=.bool true) rfl rfl rfl (fun H hs=> ⟨true,hs.get (i:=2) rfl⟩) rfl rfl rfl (by decide) (int_key (-2)) (resF_flat q8) (fun r hr=> resF_found q8 (t:=true) (by simp[d2]) hr)) ?_;refine U8 ?_;exact Tc.db (ih₁ ⟨(H₂,n+1),View.le_trans g1 hle,by simp only;omega,hno⟩ (by simp only;omega))
       · have d3:¬(-2:Int)=z:=fun h=> d2 h.symm;refine U3 ?_;refine .x (OpV.lenMap (E:=en) (es:=es4) rfl rfl rfl rfl rfl (fun H hs=> ⟨true,hs.get (i:=2) rfl⟩) rfl rfl) ?_;refine U3 ?_;refine .x (OpV.lookup (E:=en) 1 (es:=es4) (v:=.bool false) rfl rfl rfl (fun H hs=> ⟨true,hs.get (i:=2) rfl⟩) rfl rfl rfl (by decide) (int_key (-2)) (resF_flat q8) (fun r hr=> resF_found q8 (t:=false) (by simp[d3]) hr)) ?_;refine U5 ?_;exact Tc.db (ih₂ ⟨(seen.push me.born,es4,cl4,some z),q8.congr (by intro a b;simp[resF,eq_comm]),(fun y h=> by cases h;exact⟨d2,e0,u1,hz⟩),fun e he=> by
           rcases p4 e he with h|⟨me',h1,h2⟩
           · refine .inl ?_;have h3:=Classical.byContradiction fun h'=> d1 ⟨_,h,h'⟩;rw[h3]
           · rcases List.mem_cons.1 (hp.mem_iff.1 h1) with rfl|h6
             · have:=ear_inj (h2.symm.trans u2);rw[this,hz];exact .inl rfl
             · exact .inr ⟨me',h6,h2⟩⟩ (by simp only;rw[hp.length_eq];simp))
   · have hnil:=unseen_done hall;rw[hnil] at p4;simp only[List.not_mem_nil,false_and,exists_false,or_false] at p4;obtain⟨e1,he1⟩:=k.ears_some hok n c2;obtain⟨z,hz⟩:∃z,k.fate e1 (decide (n=k.nt))=z:=⟨_,rfl⟩
     have hoz:o=some z:=by rw[←hz];exact p4 e1 he1
     subst hoz;have hall2:∀e,k.earsS n e→k.fate e (decide (n=k.nt))=z:=fun e he=> (Option.some.inj (p4 e he)).symm;have hfa:k.fateAt n=some z:=Bk.fateAt_some (p3 z rfl).1 he1 hall2;have hset:k.settled=some (n,z):=Bk.settledTo_stays (j:=n+1) (by rw[Bk.settledTo,g3,hfa];rfl) _ (by omega);rw[hset] at hK;refine U8 ?_;refine .e (Or.range (E:=en) (es:=es2) (cl:=cl2) rfl rfl (fun H hs=> ⟨true,hs.get (i:=1) rfl⟩) rfl rfl rfl (by decide) (fun it2=> ?_));refine .done (.block (.loop (.sr ?_)));refine .e (Or.next (es:=es2) 0 rfl rfl rfl (fun H hs=> ⟨true,hs.get (i:=2) rfl⟩) p2.lt rfl (by decide) (fun me he hse=> ?_) (fun hall=> ?_))
     · obtain⟨y,u1,u2,_⟩:=resF_keys p2 me he;have u3:y=z:=(Option.some.inj u1).symm;subst u3;have hfind:=map_find p2 he;refine U8 ?_;refine .e (Or.entry (es:=es2) (e:=me) (st:=me.born) rfl rfl (fun H hs=> ⟨true,hs.get (i:=0) rfl⟩) (fun H hs=> ⟨true,hs.get (i:=2) rfl⟩) (by simp) hfind rfl (by decide) ?_);rw[u2];refine U12 ?_;refine .rt hK func31 results31 [_,_,_,_] ?_;exact fun H' hs=> ⟨View.le_trans g1 (View.le_trans hle hs.base),rfl⟩
     · have h1:=unseen_done hall;rw[unseen_start] at h1;obtain⟨me,h2,_⟩:=(p2.mem (.int .i64 z) (.bool true)).1 ⟨z,rfl,rfl,rfl⟩;rw[h1] at h2;cases h2
end
def Bk.inAt(k:Bk)(p q:Nat→Int)(i:Nat):Bool:=decide (k.pf i≤p i∧p i≤k.pt i)&&decide (k.qf i≤q i∧q i≤k.qt i)
def Bk.earTo(k:Bk)(p q:Nat→Int):Nat→Ear
 | 0=> ⟨[],0,false⟩
 | i+1=> (k.earTo p q i).hear (p i).toNat (k.kind (q i))
def follow3(s:List UInt8)(z a:Int):Value:=.tuple ⟨[strV s,.int .i64 z,.int .i64 a]⟩
def Bk.followV(k:Bk)(np nq:Nat)(p q:Nat→Int):Value:=
 if k.alarm≠0 then follow3 [] 0 k.alarm else if np≠k.nt∨nq≠k.nt then follow3 [] 0 2 else
   if(firstTo (fun i=> !k.inAt p q i) k.nt).isSome then follow3 [] 0 1 else follow3 (k.earTo p q k.nt).heard (firstI (k.line (k.earTo p q k.nt).heard)) 0
theorem Bk.earTo_bd {k:Bk}(h:k.trainsOk){p q:Nat→Int}:∀ {i:Nat},i≤k.nt→(∀j,j<i→k.inAt p q j=true)→(k.earTo p q i).heard.length≤i∧(k.earTo p q i).pend≤12*i
 | 0,_,_=> ⟨Nat.le_refl _,Nat.le_refl _⟩
 | i + 1,hi,hin=> by
   have h1:=Bk.earTo_bd h (p:=p) (q:=q) (i:=i) (by omega) (fun j hj=> hin j (by omega));have h2:=k.train_in h (i:=i) (by omega);have h3:=hin i (by omega);unfold Bk.inAt at h3;simp only[Bool.and_eq_true,decide_eq_true_eq] at h3;have:=Ear.hear_bd (e:=k.earTo p q i) (p:=(p i).toNat) (kd:=k.kind (q i)) h1.1 h1.2 (by omega);show((k.earTo p q i).hear _ _).heard.length≤_∧_;constructor
   · exact this.1
   · have:=this.2;show((k.earTo p q i).hear _ _).pend≤_;omega
section
variable(M:Md prog)(H:View)
theorem Follow_c (k:Bk)(A:Option Addr)(lc:Nat)(B:Option Addr)(tc:Nat)(hk:BkAt H k A lc B tc)(hn:k.small)(hG:Glob H)(P Q0:Option Addr)(np nq pc qc:Nat)(p q:Nat→Int)(hP:FreeAt H P np p)(hQ:FreeAt H Q0 nq q):
   CallT M 19 #[k.val A lc B tc,.slice P np pc,.slice Q0 nq qc] H (fun v H'=> H.le H'∧v=k.followV np nq p q):=by
 by_cases ha:k.alarm=0
 · have hop := fun(H':View) (h':H.le H')=> open_yes M H' k A lc B tc (hk.le h') hn (glob_le hG h') ha;by_cases c1:np=k.nt
   · by_cases c2 :nq=k.nt
     · obtain ⟨_,hnl,hnt,hok⟩:=Bk.valid ha;have ev:k.followV np nq p q=if(firstTo (fun i=> !k.inAt p q i) k.nt).isSome then follow3 [] 0 1 else follow3 (k.earTo p q k.nt).heard (firstI (k.line (k.earTo p q k.nt).heard)) 0:=by
         unfold Bk.followV;rw[if_neg (by simp[ha]),if_neg (by simp[c1,c2])]
       rw[ev];clear ev;subst c1;subst c2;refine .en func19 ntmps19 fun St c cs hK=> ?_;refine U2 ?_;refine .bo fun b3=> ?_;refine U7 ?_;refine .c rfl rfl rfl rfl (fun H hs=> .h (hop H hs.base)) ?_;refine U3 ?_;refine .al fun b9=> ?_;refine U35 ?_;refine .al fun b10=> ?_;refine U10 ?_;refine Tc.db (Tc.loopInv (σ:= { j:Nat//j≤k.nt∧∀i,i<j→k.inAt p q i=true }) (fun j=> ([(1,.slice P k.nt pc),(2,.slice Q0 k.nt qc),(3,.pointer (some ⟨b3,0,none⟩)),(9,.pointer (some ⟨b9,0,none⟩)),(10,.pointer (some ⟨b10,0,none⟩)),(38,.slice B k.nt tc),(39,.int .i64 (k.nt:Nat)),(40,.int .i64 (j.1:Nat))],
         [(b10,true,.cells ⟨(k.earTo p q j.1).val.cells.toList⟩ 117 (0,0)),(b9,true,.cells ⟨(k.val A lc B tc).cells.toList⟩ 113 (0,0)),(b3,true,.cells ⟨(k.val A lc B tc).cells.toList⟩ 25 (0,0))])) (fun j=> k.nt-j.1) ?_ ⟨0,Nat.zero_le _,fun i hi=> by omega⟩)
       rintro⟨j,hj,hin⟩ ih;show Tc M St _ _ _ _ [(1,.slice P k.nt pc),(2,.slice Q0 k.nt qc),(3,.pointer (some ⟨b3,0,none⟩)),(9,.pointer (some ⟨b9,0,none⟩)),(10,.pointer (some ⟨b10,0,none⟩)),(38,.slice B k.nt tc),(39,.int .i64 (k.nt:Nat)),(40,.int .i64 (j:Nat))]
         [(b10,true,.cells ⟨(k.earTo p q j).val.cells.toList⟩ 117 (0,0)),(b9,true,.cells ⟨(k.val A lc B tc).cells.toList⟩ 113 (0,0)),(b3,true,.cells ⟨(k.val A lc B tc).cells.toList⟩ 25 (0,0))] _ _
       by_cases c3:j=k.nt
       · subst c3;have e:(firstTo (fun i=> !k.inAt p q i) k.nt).isSome=false:=by
           rw[(firstTo_none _).2 (fun i hi=> by simp[hin i hi])];rfl
         rw[e] at hK;have hln:=fun(H':View) (h':H.le H')=> line_c M H' k A lc B tc (hk.rows.le h') hn.nl (k.earTo p q k.nt).heard;refine U8 ?_;refine Tc.dr [] [] mixed rfl ?_;refine .nn 0 ?_;refine .nn 1 ?_;refine .nn 2 ?_;refine .nn 3 ?_;refine .nn 4 ?_;refine .z 5 rfl (OpV.takeCall rfl rfl rfl rfl (fun H hs=> .h (hln H hs.base))) ?_;refine .nn 6 ?_;refine .nn 7 ?_;refine .nn 8 ?_;refine .dn ?_;refine .rt hK func19 results19 [_,_,_] ?_;exact okB
       · have c4 :j<k.nt:=by omega
         have hbd:=Bk.earTo_bd hok hj hin;have htr:=k.train_in hok c4;have hT:=hk.trains;obtain⟨_,h0|⟨tb,to,f,gs,gt,gz,rfl,hb,hl⟩⟩:=hT
         · omega
         obtain h0|⟨pb,po,fp,ps,pt,pz,rfl,hpb,hpl⟩:=hP
         · omega
         obtain h0|⟨qb,qo,fq,qs,qt,qz,rfl,hqb,hql⟩:=hQ
         · omega
         have f1:=hl j c4;have f2:=hpl j c4;have f3:=hql j c4;by_cases c5:k.pf j≤p j∧p j≤k.pt j
         · have h1:=fun(H':View)=> between_is M H' (p j) (k.pf j) (k.pt j) true (decide_eq_true c5);by_cases c6:k.qf j≤q j∧q j≤k.qt j
           · have h2:=fun(H':View)=> between_is M H' (q j) (k.qf j) (k.qt j) true (decide_eq_true c6);obtain⟨pn,hpn⟩:∃m:Nat,p j=m:=⟨(p j).toNat,by omega⟩
             rw[hpn] at f2 h1;have hh:=fun(H':View)=> hear_c M H' (k.earTo p q j) pn (k.kind (q j)) (by omega) (by omega) (by omega) (k.kind_le _);refine U14 ?_;refine .al fun b12=> ?_;refine U5 ?_;refine Tc.dr [] [] mixed rfl ?_;refine .nn 0 ?_;refine .nn 1 ?_;refine .nn 2 ?_;refine .nn 3 ?_;refine .nn 4 ?_;refine .nn 5 ?_;refine .nn 6 ?_;refine .nn 7 ?_;refine .nn 8 ?_;refine .nn 9 ?_;refine .z 10 rfl (OpV.takeCall rfl rfl rfl rfl (fun H hs=> .h (h1 H))) ?_;refine .nn 11 ?_;refine .nn 12 ?_;refine .nn 13 ?_;refine .nn 14 ?_;refine .nn 15 ?_;refine .nn 16 ?_;refine .nn 17 ?_;refine .nn 18 ?_;refine .nn 19 ?_;refine .nn 20 ?_;refine .nn 21 ?_;refine .nn 22 ?_;refine .z 23 rfl (OpV.takeCall rfl rfl rfl rfl (fun H hs=> .h (h2 H))) ?_;refine .nn 24 ?_;refine .nn 25 ?_;refine .dn ?_;refine U2 ?_;refine Tc.dr [12] [1] mixed rfl ?_;refine .nn 0 ?_;refine .nn 1 ?_;refine .nn 2 ?_;refine .nn 3 ?_;refine .nn 4 ?_;refine .nn 5 ?_;refine .nn 6 ?_;refine .nn 7 ?_;refine .nn 8 ?_;refine .nn 9 ?_;refine .z 10 rfl (OpV.takeCall rfl rfl rfl rfl (fun H hs=> .h (kind_c M H k A lc (some ⟨tb,to,none⟩) tc (q j)))) ?_;refine .z 11 rfl (OpV.takeCall rfl rfl rfl rfl (fun H hs=> .h (hh H))) ?_;refine .e 12 1 ?_;refine .dn ?_;refine U5 ?_;refine Tc.dropB (ih ⟨j+1,by omega,fun i hi=> ?_⟩ (by simp only;omega)) ⟨rfl,rfl,rfl,rfl,rfl,rfl,rfl,rfl,trivial⟩ ?_
             · by_cases e:i=j
               · subst e;unfold Bk.inAt;rw[decide_eq_true c5,decide_eq_true c6];rfl
               · exact hin i (by omega)
             · have e:k.earTo p q (j+1)=(k.earTo p q j).hear pn (k.kind (q j)):=by rw[Bk.earTo,hpn];rfl
               simp only[e];exact(by apply List.Sublist.cons;exact List.Sublist.refl _)
           · have h2:=fun(H':View)=> between_is M H' (q j) (k.qf j) (k.qt j) false (decide_eq_false c6);have e:(firstTo (fun i=> !k.inAt p q i) k.nt).isSome=true:=by
               rw[firstTo_stays (j:=j+1) (x:=j) (by
                 rw[firstTo,(firstTo_none j).2 (fun i hi=> by simp[hin i hi])];have:k.inAt p q j=false:=by unfold Bk.inAt;rw[decide_eq_false c6];simp
                 simp[this]) _ (by omega)]
               rfl
             rw[e] at hK;refine U14 ?_;refine .al fun b12=> ?_;refine U5 ?_;refine Tc.dr [] [] mixed rfl ?_;refine .nn 0 ?_;refine .nn 1 ?_;refine .nn 2 ?_;refine .nn 3 ?_;refine .nn 4 ?_;refine .nn 5 ?_;refine .nn 6 ?_;refine .nn 7 ?_;refine .nn 8 ?_;refine .nn 9 ?_;refine .z 10 rfl (OpV.takeCall rfl rfl rfl rfl (fun H hs=> .h (h1 H))) ?_;refine .nn 11 ?_;refine .nn 12 ?_;refine .nn 13 ?_;refine .nn 14 ?_;refine .nn 15 ?_;refine .nn 16 ?_;refine .nn 17 ?_;refine .nn 18 ?_;refine .nn 19 ?_;refine .nn 20 ?_;refine .nn 21 ?_;refine .nn 22 ?_;refine .z 23 rfl (OpV.takeCall rfl rfl rfl rfl (fun H hs=> .h (h2 H))) ?_;refine .nn 24 ?_;refine .nn 25 ?_;refine .dn ?_;refine U7 ?_;refine .rt hK func19 results19 [_,_,_] ?_;exact okB
         · have h1:=fun(H':View)=> between_is M H' (p j) (k.pf j) (k.pt j) false (decide_eq_false c5);have e:(firstTo (fun i=> !k.inAt p q i) k.nt).isSome=true:=by
             rw[firstTo_stays (j:=j+1) (x:=j) (by
               rw[firstTo,(firstTo_none j).2 (fun i hi=> by simp[hin i hi])];have:k.inAt p q j=false:=by unfold Bk.inAt;rw[decide_eq_false c5];simp
               simp[this]) _ (by omega)]
             rfl
           rw[e] at hK;refine U14 ?_;refine .al fun b12=> ?_;refine U5 ?_;refine Tc.dr [] [] mixed rfl ?_;refine .nn 0 ?_;refine .nn 1 ?_;refine .nn 2 ?_;refine .nn 3 ?_;refine .nn 4 ?_;refine .nn 5 ?_;refine .nn 6 ?_;refine .nn 7 ?_;refine .nn 8 ?_;refine .nn 9 ?_;refine .z 10 rfl (OpV.takeCall rfl rfl rfl rfl (fun H hs=> .h (h1 H))) ?_;refine .nn 11 ?_;refine .nn 12 ?_;refine .nw 13 ?_;refine .nw 14 ?_;refine .nw 15 ?_;refine .nw 16 ?_;refine .nw 17 ?_;refine .nw 18 ?_;refine .nw 19 ?_;refine .nw 20 ?_;refine .nw 21 ?_;refine .nw 22 ?_;refine .nw 23 ?_;refine .nw 24 ?_;refine .nn 25 ?_;refine .dn ?_;refine U7 ?_;refine .rt hK func19 results19 [_,_,_] ?_;exact okB
     · have ev:k.followV np nq p q=follow3 [] 0 2:=by
         unfold Bk.followV;rw[if_neg (by simp[ha]),if_pos (.inr c2)]
       rw[ev];refine .en func19 ntmps19 fun St c cs hK=> ?_;refine U2 ?_;refine .bo fun b3=> ?_;refine U7 ?_;refine .c rfl rfl rfl rfl (fun H hs=> .h (hop H hs.base)) ?_;refine U3 ?_;refine .al fun b9=> ?_;refine U37 ?_;refine .rt hK func19 results19 [_,_,_] ?_;exact okB
   · have ev:k.followV np nq p q=follow3 [] 0 2:=by
       unfold Bk.followV;rw[if_neg (by simp[ha]),if_pos (.inl c1)]
     rw[ev];refine .en func19 ntmps19 fun St c cs hK=> ?_;refine U2 ?_;refine .bo fun b3=> ?_;refine U7 ?_;refine .c rfl rfl rfl rfl (fun H hs=> .h (hop H hs.base)) ?_;refine U3 ?_;refine .al fun b9=> ?_;refine U37 ?_;refine .rt hK func19 results19 [_,_,_] ?_;exact okB
 · have ev:k.followV np nq p q=follow3 [] 0 k.alarm:=if_pos ha;rw[ev];refine .en func19 ntmps19 fun St c cs hK=> ?_;refine U2 ?_;refine .bo fun b3=> ?_;refine U7 ?_;refine .c rfl rfl rfl rfl (fun H hs=> .h (open_alarm M H k A lc B tc true (hk.le hs.base) hn (glob_le hG hs.base) ha)) ?_;refine U3 ?_;refine .al fun b9=> ?_;refine U19 ?_;refine .rt hK func19 results19 [_,_,_] ?_;exact okB
end
theorem none_le {H H':View}(h:H.le H'){b:Nat}(hb:H' b=none):H b=none:=by
 cases e:H b with
 | none=> rfl
 | some x=> rw[h _ _ e] at hb;cases hb
def Bk.claimOf(k:Bk)(z:Int):Int:=if z∈k.resL then if k.resL.length=1 then 1 else 0 else 2
def clL(f:Nat→Int)(n:Nat):List Value:=(List.range n).map fun i=> .int .i64 (f i)
theorem clL_succ(f:Nat→Int)(n:Nat):clL f (n+1)=clL f n++[.int .i64 (f n)]:=by
 unfold clL;rw[List.range_succ,List.map_append];rfl
theorem clL_len(f:Nat→Int)(n:Nat):(clL f n).length=n:=by simp[clL]
def reachV(g:Gl 38 1)(c a:Int):Value:=.tuple ⟨[g.val,.int .i64 c,.int .i64 a]⟩
def Bk.needTo(k:Bk)(line:Nat):Nat→Int
 | 0=> k.claimOf (line:Nat)
 | i+1=> andOf (k.needTo line i) (if k.free line i=0 then 0 else if k.free line i=1 then 2 else 1)
def Bk.takenAt(k:Bk)(line i:Nat):Int:=andOf (k.needTo line i) (k.free line i)
section
variable(M:Md prog)(H:View)
theorem claimOf_c(k:Bk)(z:Int)(m:Nat)(es:Array MapEntry)(cl:Nat)(f:Bool)(hm:H m=some (f,.map es cl))(hok:MapOk es cl (resF k.resS)):
   CallT M 95 #[.map (some m),.int .i64 z] H (fun v H'=> H.le H'∧v=.int .i64 (k.claimOf z)):=by
 refine claim_c M H k.resS z m es cl f hm hok _ ?_;have h1:=Bk.res_size hok;have h2:=k.mem_resL z;unfold Bk.claimOf;by_cases c1:z∈k.resL
 · rw[if_pos c1];by_cases c2:k.resL.length=1
   · rw[if_pos c2];exact .inr (.inl ⟨h2.1 c1,by omega,rfl⟩)
   · rw[if_neg c2];exact .inr (.inr ⟨h2.1 c1,by omega,rfl⟩)
 · rw[if_neg c1];exact .inl ⟨fun h=> c1 (h2.2 h),rfl⟩
theorem Reaches_c(k:Bk)(A:Option Addr)(lc:Nat)(B:Option Addr)(tc:Nat)(hk:BkAt H k A lc B tc)(hn:k.small)(hG:Glob H)(ha:k.alarm=0):
   CallT M 26 #[k.val A lc B tc] H (fun v H'=> H.le H'∧∃g:Gl 38 1,v=reachV g (k.claimOf (-1)) 0∧(g.n=k.nl∧g.l=clL (fun i=> k.claimOf (i:Nat)) k.nl)∧∀x∈g.bl,H' x.1=some x.2∧H x.1=none):=by
 obtain⟨_,hnl,hnt,hok⟩:=Bk.valid ha;have hop:=fun(H':View) (h':H.le H')=> open_yes M H' k A lc B tc (hk.le h') hn (glob_le hG h') ha;refine .en func26 ntmps26 fun St c cs hK=> ?_;refine U2 ?_;refine .bo fun b1=> ?_;refine U7 ?_;refine .c rfl rfl rfl rfl (fun H hs=> .h (hop H hs.base)) ?_;refine U3 ?_;refine .al fun b5=> ?_;refine U14 ?_;refine To.callF rfl rfl rfl rfl rfl rfl (by decide) (FnT.h (results_c M H k A lc B tc hk.rows hn.nl hk.trains hok hnt)) (fun v H₂ hv=> ?_);obtain⟨hle,m,es,cl,rfl,⟨fm,q3⟩,q4⟩:=hv;refine U11 ?_;refine Tc.db (Tc.loopInv (σ:= { s:Nat×Gl 38 1//s.1≤k.nl∧s.2.n=s.1∧s.2.l=clL (fun i=> k.claimOf (i:Nat)) s.1 })
   (fun s=> ([(1,.pointer (some ⟨b1,0,none⟩)),(2,s.1.2.val),(5,.pointer (some ⟨b5,0,none⟩)),(6,.map (some m)),(20,.int .i64 (k.nl:Nat)),(21,.int .i64 (s.1.1:Nat))],[(b5,true,.cells ⟨(k.val A lc B tc).cells.toList⟩ 113 (0,0)),(b1,true,.cells ⟨(k.val A lc B tc).cells.toList⟩ 25 (0,0))]++s.1.2.bl)) (fun s=> k.nl-s.1.1) ?_ ⟨(0,Gl.nil 38 1),Nat.zero_le _,rfl,rfl⟩)
 rintro⟨⟨j,g⟩,p1,p2,p3⟩ ih;simp only at p1 p2 p3;show Tc M St _ _ _ _ [(1,.pointer (some ⟨b1,0,none⟩)),(2,g.val),(5,.pointer (some ⟨b5,0,none⟩)),(6,.map (some m)),(20,.int .i64 (k.nl:Nat)),(21,.int .i64 (j:Nat))] ([(b5,true,.cells ⟨(k.val A lc B tc).cells.toList⟩ 113 (0,0)),(b1,true,.cells ⟨(k.val A lc B tc).cells.toList⟩ 25 (0,0))]++g.bl) _ _;by_cases c1:j=k.nl
 · subst c1;refine U11 ?_;refine .c rfl rfl rfl rfl (fun H hs=> .h (claimOf_c M H k (-1) m es cl fm (hs.base _ _ q3) q4)) ?_;refine U4 ?_;refine .rt hK func26 results26 [_,_,_] ?_;exact fun H' hs=> ⟨View.le_trans hle hs.base,g,rfl,⟨p2,p3⟩,fun x hx=> ⟨hs.at_ x (by simp[hx]),none_le hle (hs.out x (by simp[hx]))⟩⟩
 · have c2:j<k.nl:=by omega
   refine U18 ?_;refine .c rfl rfl rfl rfl (fun H hs=> .h (claimOf_c M H k (j:Nat) m es cl fm (hs.base _ _ q3) q4)) ?_;refine .e (.bs (zz:=fun bs=> ?_));refine .e (Or.append (E:=en) 3 rfl rfl rfl rfl rfl rfl rfl rfl rfl rfl rfl rfl rfl rfl rfl (fun H hs=> SrcAt.of (hs.get (i:=0) rfl) (Nat.le_of_ble_eq_true rfl)) rfl (by omega) rfl (by decide) (fun g' hn2 hl2=> ?_));refine U7 ?_;exact Tc.db (ih ⟨(j+1,g'),by simp only;omega,by simp only;omega,by simp only;rw[hl2,p3,clL_succ];rfl⟩ (by simp only;omega))
end
theorem firstA_zero {f:Nat→Int}:∀n,firstA f n=0→∀i,i<n→f i=0
 | 0,_,i,hi=> by omega
 | n + 1,h,i,hi=> by
   rw[firstA] at h;split at h
   · rename_i h0
     by_cases e:i=n
     · subst e;exact h
     · exact firstA_zero n h0 i (by omega)
   · rename_i h0
     exact(h0 h).elim
theorem Bk.line_ok {k:Bk}(h:k.alarm=0){i:Nat}(hi:i<k.nl):isNm (k.name i)=true∧k.again i=false∧isNum (k.num i)=true∧(k.pre i).clash (k.num i)=false∧(1≤k.nf i∧k.nf i≤4)∧∀j,j<k.nf i→0≤k.free i j∧k.free i j≤2:=by
 obtain⟨_,h2,_⟩:=Bk.alarm0 h;unfold Bk.linesA at h2;split at h2
 · cases h2
 · have h3 :=firstA_zero _ h2 i hi;unfold Bk.lineA at h3;split at h3
   · cases h3
   · rename_i q0
     split at h3
     · cases h3
     · rename_i q1
       split at h3
       · cases h3
       · rename_i q2
         split at h3
         · cases h3
         · rename_i q3
           split at h3
           · cases h3
           · rename_i q4
             split at h3
             · cases h3
             · rename_i q5
               have q4':=of_decide_eq_true (Bool.not_eq_false _▸q4:decide _=true);refine⟨by simpa using q0,by simpa using q1,by simpa using q2,by simpa using q3,by omega,fun j hj=> ?_⟩;unfold Bk.freeBad at q5;have h4:firstTo (fun j=> !claimOk (k.free i j)) (k.nf i)=none:=by
                 cases hz:firstTo (fun j=> !claimOk (k.free i j)) (k.nf i) with
                 | none=> rfl
                 | some y=> rw[hz] at q5;exact(q5 rfl).elim
               have h5:=(firstTo_none _).1 h4 j hj;unfold claimOk at h5;simpa using h5
theorem ldL_cell {sz off d:Nat}{gs c:List Value}(h:ldL true sz gs off=some (.agg ⟨c⟩))(hd:d<sz):ldL false 1 gs (off+d)=c[d]? :=by
 obtain⟨h1,h2⟩:=ldL_le h;simp only[Value.agg.injEq,Array.mk.injEq] at h2;show gs[_]? =_;rw[h2,List.getElem?_take,if_pos hd,List.getElem?_drop]
def tkL(k:Bk)(line j:Nat):List Value:=(List.range 4).map fun i=> .int .i64 (if i<j then k.takenAt line i else 0)
theorem tkL_st(k:Bk)(line j:Nat)(hj:j<4):stL (tkL k line j) (0+((j:Nat):Int).toNat*1) [.int .i64 (k.takenAt line j)]=tkL k line (j+1):=by
 rcases(by omega:j=0∨j=1∨j=2∨j=3) with rfl|rfl|rfl|rfl <;> rfl
theorem tkL_src(k:Bk)(line n:Nat)(hn:n≤4){H:View}{b:Nat}{f:Bool}{gt:TypeId}{gz:Nat×Nat}(hb:H b=some (f,.cells ⟨tkL k line n⟩ gt gz)):SrcAt H 1 (.slice (some ⟨b,0,none⟩) n 4) n (clL (k.takenAt line) n):=by
 have h:=SrcAt.of (sz:=1) (m:=n) (c:=4) (off:=0) hb (by simp[tkL];omega);have e:((tkL k line n).drop 0).take (n*1)=clL (k.takenAt line) n:=by
   rcases(by omega:n=0∨n=1∨n=2∨n=3∨n=4) with rfl|rfl|rfl|rfl|rfl <;> rfl
 rw[e] at h;exact h
theorem clL_single(f:Nat→Int)(n:Nat):(clL f n).all single=true:=by
 rw[List.all_eq_true];intro x hx;obtain⟨i,_,rfl⟩:=List.mem_map.1 hx;rfl
section
variable(M:Md prog)(H:View)
theorem Taken_c(k:Bk)(A:Option Addr)(lc:Nat)(B:Option Addr)(tc:Nat)(hk:BkAt H k A lc B tc)(hn:k.small)(hG:Glob H)(ha:k.alarm=0)(line:Nat)(hl:line<k.nl):
   CallT M 29 #[k.val A lc B tc,.int .i64 (line:Nat)] H (fun v H'=> H.le H'∧∃g:Gl 38 1,v=reachV g (k.needTo line (k.nf line)) 0∧(g.n=k.nf line∧g.l=clL (k.takenAt line) (k.nf line))∧∀x∈g.bl,H' x.1=some x.2∧H x.1=none):=by
 obtain⟨_,hnl,hnt,hok⟩:=Bk.valid ha;obtain⟨_,_,_,_,hnf,hfr⟩:=Bk.line_ok ha hl;have hb:=fun(H':View)=> between_is M H' ((line:Nat):Int) 0 ((k.nl:Int)-1) true (decide_eq_true (by omega));have hop:=fun(H':View) (h':H.le H')=> open_yes M H' k A lc B tc (hk.le h') hn (glob_le hG h') ha;have hRows:=hk.rows;obtain⟨_,h0|⟨ab,ao,fa,gs,gt,gz,rfl,hab,hrow⟩⟩:=hRows
 · omega
 obtain⟨F,fc,f1,hfc,hF⟩:=hrow line hl;have f2:ldL false 1 gs (ao+((line:Nat):Int).toNat*3+2)=some (.slice F (k.nf line) fc):=ldL_cell f1 (by decide);obtain h0|⟨fb,fo,ff,fs,ft,fz,rfl,hfb,hfl⟩:=hF
 · omega
 obtain⟨_,fg,gt1,gz1,hg1⟩:=hG;refine .en func29 ntmps29 fun St c cs hK=> ?_;refine U2 ?_;refine .bo fun b2=> ?_;refine U5 ?_;refine Tc.dr [12] [] mixed rfl ?_;refine .nn 0 ?_;refine .nn 1 ?_;refine .nn 2 ?_;refine .nn 3 ?_;refine .nn 4 ?_;refine .nn 5 ?_;refine .z 6 rfl (OpV.takeCall rfl rfl rfl rfl (fun H hs=> .h (hb H))) ?_;refine .z 7 rfl (OpV.takeCall rfl rfl rfl rfl (fun H hs=> .h (hop H hs.base))) ?_;refine .nn 8 ?_;refine .nn 9 ?_;refine .nw 10 ?_;refine Ta.each [11] (by kernel_rfl) rfl ⟨TaOp.mk rfl rfl rfl (.al (zz:=fun b7=> ⟨S2.mk (by apply List.Sublist.cons;exact List.Sublist.refl _) (.inr (by apply List.Sublist.cons;exact List.Sublist.refl _)),?_⟩)),trivial⟩;refine .e 12 0 ?_;refine .nw 13 ?_;refine .dn ?_;refine U10 ?_;refine .al fun b8=> ?_;refine U4 ?_;refine To.callF rfl rfl rfl rfl rfl rfl (by decide) (FnT.h (results_c M H k (some ⟨ab,ao,none⟩) lc B tc hk.rows hn.nl hk.trains hok hnt)) (fun v H₂ hv=> ?_);obtain⟨hle,m,es,cl,rfl,⟨fm,q3⟩,q4⟩:=hv;have hab2:=hle _ _ hab;have hfb2:=hle _ _ hfb;have hg2:=hle _ _ hg1;refine U ?_;refine .c rfl rfl rfl rfl (fun H hs=> .h (claimOf_c M H k (line:Nat) m es cl fm (hs.base _ _ q3) q4)) ?_;refine U20 ?_;refine Tc.db (Tc.loopInv (σ:= { j:Nat//j≤k.nf line }) (fun j=> ([(2,.pointer (some ⟨b2,0,none⟩)),(4,.slice none 0 0),(5,.int .i64 (k.needTo line j.1)),(7,.pointer (some ⟨b7,0,none⟩)),(8,.pointer (some ⟨b8,0,none⟩)),(9,.slice (some ⟨fb,fo,none⟩) (k.nf line) fc),(36,.slice (some ⟨fb,fo,none⟩) (k.nf line) fc),(37,.int .i64 (k.nf line:Nat)),(38,.int .i64 (j.1:Nat))],
   [(b8,true,.cells ⟨tkL k line j.1⟩ 140 (0,0)),(b7,true,.cells ⟨(k.val (some ⟨ab,ao,none⟩) lc B tc).cells.toList⟩ 113 (0,0)),(b2,true,.cells ⟨(k.val (some ⟨ab,ao,none⟩) lc B tc).cells.toList⟩ 25 (0,0))])) (fun j=> k.nf line-j.1) ?_ ⟨0,Nat.zero_le _⟩)
 rintro⟨j,hj⟩ ih;show Tc M St _ _ _ _ [(2,.pointer (some ⟨b2,0,none⟩)),(4,.slice none 0 0),(5,.int .i64 (k.needTo line j)),(7,.pointer (some ⟨b7,0,none⟩)),(8,.pointer (some ⟨b8,0,none⟩)),(9,.slice (some ⟨fb,fo,none⟩) (k.nf line) fc),(36,.slice (some ⟨fb,fo,none⟩) (k.nf line) fc),(37,.int .i64 (k.nf line:Nat)),(38,.int .i64 (j:Nat))]
   [(b8,true,.cells ⟨tkL k line j⟩ 140 (0,0)),(b7,true,.cells ⟨(k.val (some ⟨ab,ao,none⟩) lc B tc).cells.toList⟩ 113 (0,0)),(b2,true,.cells ⟨(k.val (some ⟨ab,ao,none⟩) lc B tc).cells.toList⟩ 25 (0,0))] _ _
 by_cases c1:j=k.nf line
 · subst c1;refine U12 ?_;refine .x (OpV.sliceA (E:=en) (off':=0) rfl rfl rfl rfl rfl rfl rfl rfl (by omega) (by omega) (by omega) (by rw[if_neg (by decide)];rfl)) ?_;refine .e (Or.append (E:=en) (g:=Gl.nil 38 1) (m:=k.nf line) (new:=clL (k.takenAt line) (k.nf line)) (yv:=.slice (some ⟨b8,0,none⟩) (k.nf line) 4) 3 rfl rfl rfl rfl rfl rfl rfl rfl rfl rfl rfl rfl rfl rfl rfl (fun H hs=> tkL_src k line (k.nf line) hnf.2 (hs.get (i:=0) rfl)) (clL_single _ _) (by show 0+k.nf line≤_;omega) rfl (by decide) (fun g' hn2 hl2=> ?_));refine U5 ?_;refine .rt hK func29 results29 [_,_,_] ?_;exact fun H' hs=> ⟨View.le_trans hle hs.base,g',rfl,⟨by rw[hn2];exact Nat.zero_add _,by rw[hl2];rfl⟩,fun x hx=> ⟨hs.at_ x (by simp[hx]),none_le hle (hs.out x (by simp[hx]))⟩⟩
 · have c2:j<k.nf line:=by omega
   have f3:=hfl j c2;have hfj:=hfr j c2;obtain⟨nz,hnz⟩:∃z,(if k.free line j=0 then 0 else if k.free line j=1 then 2 else 1:Int)=z:=⟨_,rfl⟩
   have f4:ldL false 1 [Value.int .i64 0,.int .i64 2,.int .i64 1] (0+(k.free line j).toNat*1)=some (.int .i64 nz):=by
     rw[←hnz];rcases(by omega:k.free line j=0∨k.free line j=1∨k.free line j=2) with h|h|h <;> rw[h] <;> rfl
   have f5:Nat.ble (0+((j:Nat):Int).toNat*1+1) (tkL k line j).length=true:=by
     refine Nat.ble_eq_true_of_le ?_;rw[Int.toNat_natCast];simp[tkL]
     omega
   have f6:=tkL_st k line j (by omega);have en1:k.needTo line (j+1)=andOf (k.needTo line j) nz:=by rw[Bk.needTo,hnz]
   refine U17 ?_;refine Tc.dr [10] [0] mixed rfl ?_;refine .nn 0 ?_;refine .nn 1 ?_;refine .nn 2 ?_;refine .z 3 rfl (OpV.takeCall rfl rfl rfl rfl (fun H hs=> .h (and_c M H (k.needTo line j) (k.free line j)))) ?_;refine .nw 4 ?_;refine .nw 5 ?_;refine .nw 6 ?_;refine .nn 7 ?_;refine .z 8 rfl (OpV.takeCall rfl rfl rfl rfl (fun H hs=> .h (and_c M H (k.needTo line j) nz))) ?_;refine .nn 9 ?_;refine .e 10 0 ?_;refine .nw 11 ?_;refine .dn ?_;refine U5 ?_;refine Tc.dropB (ih ⟨j+1,by omega⟩ (by simp only;omega)) ?_ ?_
   · simp only[en1];exact⟨rfl,rfl,rfl,rfl,rfl,rfl,rfl,rfl,rfl,trivial⟩
   · exact(by exact List.Sublist.refl _)
end
theorem BookAt.bk {H:View}{k:Bk}{A:Option Addr}{lc:Nat}{B:Option Addr}{tc:Nat}{F:Nat→Option Addr}{fc:Nat→Nat}(h:BookAt H k A lc B tc F fc):BkAt H k A lc B tc:=⟨h.rowsAt,h.trainsAt⟩
def bookV(x:Value)(a:Int):Value:=.tuple ⟨[x,.int .i64 a]⟩
def noBook(a:Int):Value:=bookV (bk0.val none 0 none 0) a
def imax(a b:Int):Int:=if a<b then b else a
def imin(a b:Int):Int:=if b<a then b else a
def Bk.nowOk(k:Bk)(t:Nat)(a b c' d:Int):Bool:=trainOk (imax (k.pf t) a) (imin (k.pt t) b) (imax (k.qf t) c') (imin (k.qt t) d)
def Bk.now(k:Bk)(t:Nat)(a b c' d:Int):Bk:=k.with t (imax (k.pf t) a) (imin (k.pt t) b) (imax (k.qf t) c') (imin (k.qt t) d)
section
variable(M:Md prog)(H:View)
theorem Know_limit(k:Bk)(A:Option Addr)(lc:Nat)(B:Option Addr)(tc:Nat)(hk:BkAt H k A lc B tc)(hn:k.small)(hG:Glob H)(ha:k.alarm=0)(t:Nat)(ht:t<k.nt)(a b c' d:Int)(hx:trainOk a b c' d=false):
   CallT M 35 #[k.val A lc B tc,.int .i64 (t:Nat),trainV a b c' d] H (fun v H'=> H.le H'∧v=noBook 1):=by
 have hnt:=hn.nt;have hb:=fun(H':View)=> between_is M H' ((t:Nat):Int) 0 ((k.nt:Int)-1) true (decide_eq_true (by omega));refine .en func35 ntmps35 fun St c cs hK=> ?_;refine U2 ?_;refine .bo fun b3=> ?_;refine .bo fun b5=> ?_;refine .al fun b6=> ?_;refine U3 ?_;refine Tc.dr [12] [] mixed rfl ?_;refine .nn 0 ?_;refine .nn 1 ?_;refine .nn 2 ?_;refine .nn 3 ?_;refine .nn 4 ?_;refine .nn 5 ?_;refine .z 6 rfl (OpV.takeCall rfl rfl rfl rfl (fun H hs=> .h (hb H))) ?_;refine .z 7 rfl (OpV.takeCall rfl rfl rfl rfl (fun H hs=> .h (open_yes M H k A lc B tc (hk.le hs.base) hn (glob_le hG hs.base) ha))) ?_;refine .nn 8 ?_;refine .nn 9 ?_;refine .nw 10 ?_;refine Ta.each [11] (by kernel_rfl) rfl ⟨TaOp.mk rfl rfl rfl (.al (zz:=fun b8=> ⟨S2.mk (by apply List.Sublist.cons;exact List.Sublist.refl _) (.inr (by apply List.Sublist.cons;exact List.Sublist.refl _)),?_⟩)),trivial⟩;refine .e 12 0 ?_;refine .nw 13 ?_;refine .dn ?_;refine U12 ?_;refine .c rfl rfl rfl rfl (fun H hs=> .h (isB (isTrain_c M H a b c' d) hx)) ?_;refine U10 ?_;refine .rt hK func35 results35 [_,_] ?_;exact okB
theorem Know_conflict(k:Bk)(A:Option Addr)(lc:Nat)(B:Option Addr)(tc:Nat)(hk:BkAt H k A lc B tc)(hn:k.small)(hG:Glob H)(ha:k.alarm=0)(t:Nat)(ht:t<k.nt)(a b c' d:Int)(hx:trainOk a b c' d=true)(hy:k.nowOk t a b c' d=false):
   CallT M 35 #[k.val A lc B tc,.int .i64 (t:Nat),trainV a b c' d] H (fun v H'=> H.le H'∧v=noBook 10):=by
 have hnt:=hn.nt;have hb:=fun(H':View)=> between_is M H' ((t:Nat):Int) 0 ((k.nt:Int)-1) true (decide_eq_true (by omega));have hT:=hk.trains;obtain⟨_,h0|⟨tb,to,ft,gs,gt,gz,rfl,htb,hl⟩⟩:=hT
 · omega
 have f1:=hl t ht;refine .en func35 ntmps35 fun St c cs hK=> ?_;refine U2 ?_;refine .bo fun b3=> ?_;refine .bo fun b5=> ?_;refine .al fun b6=> ?_;refine U3 ?_;refine Tc.dr [12] [] mixed rfl ?_;refine .nn 0 ?_;refine .nn 1 ?_;refine .nn 2 ?_;refine .nn 3 ?_;refine .nn 4 ?_;refine .nn 5 ?_;refine .z 6 rfl (OpV.takeCall rfl rfl rfl rfl (fun H hs=> .h (hb H))) ?_;refine .z 7 rfl (OpV.takeCall rfl rfl rfl rfl (fun H hs=> .h (open_yes M H k A lc (some ⟨tb,to,none⟩) tc (hk.le hs.base) hn (glob_le hG hs.base) ha))) ?_;refine .nn 8 ?_;refine .nn 9 ?_;refine .nw 10 ?_;refine Ta.each [11] (by kernel_rfl) rfl ⟨TaOp.mk rfl rfl rfl (.al (zz:=fun b8=> ⟨S2.mk (by apply List.Sublist.cons;exact List.Sublist.refl _) (.inr (by apply List.Sublist.cons;exact List.Sublist.refl _)),?_⟩)),trivial⟩;refine .e 12 0 ?_;refine .nw 13 ?_;refine .dn ?_;refine U12 ?_;refine .c rfl rfl rfl rfl (fun H hs=> .h (isB (isTrain_c M H a b c' d) hx)) ?_;refine U13 ?_;refine .al fun b10=> ?_;refine U3 ?_;refine Tc.dr [12] [] mixed rfl ?_;refine .nn 0 ?_;refine .nn 1 ?_;refine .nn 2 ?_;refine .nn 3 ?_;refine .z 4 rfl (OpV.takeCall rfl rfl rfl rfl (fun H hs=> .h (both_c M H (k.pf t) (k.pt t) a b (imax (k.pf t) a) (imin (k.pt t) b) rfl rfl))) ?_;refine .nn 5 ?_;refine .nn 6 ?_;refine .nn 7 ?_;refine .nn 8 ?_;refine .z 9 rfl (OpV.takeCall rfl rfl rfl rfl (fun H hs=> .h (both_c M H (k.qf t) (k.qt t) c' d (imax (k.qf t) c') (imin (k.qt t) d) rfl rfl))) ?_;refine .nn 10 ?_;refine Ta.each [11] (by kernel_rfl) rfl ⟨TaOp.mk rfl rfl rfl (.al (zz:=fun b11=> ⟨S2.mk (by apply List.Sublist.cons;exact List.Sublist.refl _) (.inr (by apply List.Sublist.cons;exact List.Sublist.refl _)),?_⟩)),trivial⟩;refine .e 12 0 ?_;refine .dn ?_;refine U4 ?_;refine .c rfl rfl rfl rfl (fun H hs=> .h (isB (isTrain_c M H (imax (k.pf t) a) (imin (k.pt t) b) (imax (k.qf t) c') (imin (k.qt t) d)) hy)) ?_;refine U9 ?_;refine .rt hK func35 results35 [_,_] ?_;exact okB
theorem Know_c(k:Bk)(A:Option Addr)(lc:Nat)(B:Option Addr)(tc:Nat)(F:Nat→Option Addr)(fc:Nat→Nat)(hB:BookAt H k A lc B tc F fc)(hn:k.small)(hG:Glob H)(ha:k.alarm=0)(t:Nat)(ht:t<k.nt)(a b c' d:Int)(hx:trainOk a b c' d=true)(hy:k.nowOk t a b c' d=true):
   CallT M 35 #[k.val A lc B tc,.int .i64 (t:Nat),trainV a b c' d] H (fun v H'=> H.le H'∧∃A' lc' B' tc' F' fc',v=bookV ((k.now t a b c' d).val A' lc' B' tc') 0∧BookAt H' (k.now t a b c' d) A' lc' B' tc' F' fc'):=by
 have hk:=hB.bk;have hnt:=hn.nt;have hb:=fun(H':View)=> between_is M H' ((t:Nat):Int) 0 ((k.nt:Int)-1) true (decide_eq_true (by omega));have hT:=hk.trains;obtain⟨_,h0|⟨tb,to,ft,gs,gt,gz,rfl,htb,hl⟩⟩:=hT
 · omega
 have f1:=hl t ht;refine .en func35 ntmps35 fun St c cs hK=> ?_;refine U2 ?_;refine .bo fun b3=> ?_;refine .bo fun b5=> ?_;refine .al fun b6=> ?_;refine U3 ?_;refine Tc.dr [12] [] mixed rfl ?_;refine .nn 0 ?_;refine .nn 1 ?_;refine .nn 2 ?_;refine .nn 3 ?_;refine .nn 4 ?_;refine .nn 5 ?_;refine .z 6 rfl (OpV.takeCall rfl rfl rfl rfl (fun H hs=> .h (hb H))) ?_;refine .z 7 rfl (OpV.takeCall rfl rfl rfl rfl (fun H hs=> .h (open_yes M H k A lc (some ⟨tb,to,none⟩) tc (hk.le hs.base) hn (glob_le hG hs.base) ha))) ?_;refine .nn 8 ?_;refine .nn 9 ?_;refine .nw 10 ?_;refine Ta.each [11] (by kernel_rfl) rfl ⟨TaOp.mk rfl rfl rfl (.al (zz:=fun b8=> ⟨S2.mk (by apply List.Sublist.cons;exact List.Sublist.refl _) (.inr (by apply List.Sublist.cons;exact List.Sublist.refl _)),?_⟩)),trivial⟩;refine .e 12 0 ?_;refine .nw 13 ?_;refine .dn ?_;refine U12 ?_;refine .c rfl rfl rfl rfl (fun H hs=> .h (isB (isTrain_c M H a b c' d) hx)) ?_;refine U13 ?_;refine .al fun b10=> ?_;refine U3 ?_;refine Tc.dr [12] [] mixed rfl ?_;refine .nn 0 ?_;refine .nn 1 ?_;refine .nn 2 ?_;refine .nn 3 ?_;refine .z 4 rfl (OpV.takeCall rfl rfl rfl rfl (fun H hs=> .h (both_c M H (k.pf t) (k.pt t) a b (imax (k.pf t) a) (imin (k.pt t) b) rfl rfl))) ?_;refine .nn 5 ?_;refine .nn 6 ?_;refine .nn 7 ?_;refine .nn 8 ?_;refine .z 9 rfl (OpV.takeCall rfl rfl rfl rfl (fun H hs=> .h (both_c M H (k.qf t) (k.qt t) c' d (imax (k.qf t) c') (imin (k.qt t) d) rfl rfl))) ?_;refine .nn 10 ?_;refine Ta.each [11] (by kernel_rfl) rfl ⟨TaOp.mk rfl rfl rfl (.al (zz:=fun b11=> ⟨S2.mk (by apply List.Sublist.cons;exact List.Sublist.refl _) (.inr (by apply List.Sublist.cons;exact List.Sublist.refl _)),?_⟩)),trivial⟩;refine .e 12 0 ?_;refine .dn ?_;refine U4 ?_;refine .c rfl rfl rfl rfl (fun H hs=> .h (isB (isTrain_c M H (imax (k.pf t) a) (imin (k.pt t) b) (imax (k.qf t) c') (imin (k.qt t) d)) hy)) ?_;refine U9 ?_;refine To.callF rfl rfl rfl rfl rfl rfl (by decide) (FnT.h (with_c M H k A lc (some ⟨tb,to,none⟩) tc F fc hB hn.nl hn.nt (fun i hi=> (hn.num i hi).2) t ht (imax (k.pf t) a) (imin (k.pt t) b) (imax (k.qf t) c') (imin (k.qt t) d))) (fun v H₅ hv=> ?_);obtain⟨hle5,A',lc',B',tc',F',fc',rfl,hB'⟩:=hv;refine U4 ?_;refine .rt hK func35 results35 [_,_] ?_;exact fun H' hs=> ⟨View.le_trans hle5 hs.base,A',lc',B',tc',F',fc',rfl,hB'.le hs.base⟩
end
end Go.Proofs.YtdnfdeplcjaonaaGreatDoor
namespace Go.Proofs.YtdnfdeplcjaonaaGreatDoor
open Go.RL Go.Proofs.Tryz Go.ChangeShapes Go.WideShapes Go.ChangeAt Go.RowKit
set_option maxRecDepth 100000
theorem rows_flat {gs:List Value}{o sz:Nat}{f:Nat→List Value}(h0:0<sz)(hf:∀i,(f i).length=sz):∀n,(∀i,i<n→(gs.drop (o+i*sz)).take sz=f i)→(gs.drop o).take (n*sz)=flatR n f
 | 0,_=> by simp[flatR]
 | n+1,h=> by
   rw[flatR_succ,←rows_flat h0 hf n (fun i hi=> h i (by omega)),←h n (by omega),Nat.succ_mul,List.take_add,List.drop_drop]
theorem rows_src {H:View}{b o c sz n:Nat}{g:Bool}{gs:List Value}{gt:TypeId}{gz:Nat×Nat}{f:Nat→List Value}(h0:0<sz)(hf:∀i,(f i).length=sz)(hn:0<n)(hb:H b=some (g,.cells ⟨gs⟩ gt gz))(h:∀i:Nat,i<n→o+i*sz+sz≤gs.length∧(gs.drop (o+i*sz)).take sz=f i):
   SrcAt H sz (.slice (some ⟨b,o,none⟩) n c) n (flatR n f):=by
 have h1:=(h (n-1) (by omega)).1;have h2:o+n*sz≤gs.length:=by
   have:n*sz=(n-1)*sz+sz:=by rw[←Nat.succ_mul];congr 1;omega
   omega
 have:=SrcAt.of (sz:=sz) (m:=n) (c:=c) (off:=o) hb h2;rw[rows_flat h0 hf n (fun i hi=> (h i hi).2)] at this;exact this
section
variable {H:Type}{enc:TypeId×Value→H}{W:World}
end
end Go.Proofs.YtdnfdeplcjaonaaGreatDoor
namespace Go.Proofs.YtdnfdeplcjaonaaGreatDoor
open Go.RL Go.Proofs.Tryz
set_option maxRecDepth 10000
set_option maxHeartbeats 16000000
def pn(x:UInt8):Nat:=if x.toNat=48 then 10 else x.toNat-48
theorem pn_in {x:UInt8}(h:dig x=true):1≤pn x∧pn x≤10:=by
 have:=of_decide_eq_true h;unfold pn;split <;> omega
def pnAt(s:List UInt8)(i:Nat):Nat:=pn (s[i]?.getD 48)
def slip(s:List UInt8)(i m:Nat):List UInt8:=s.take i++[digB m]++s.drop (i+1)
def slipAt(s:List UInt8)(i m:Nat):List (List UInt8):=if 1≤m∧m≤10 then [slip s i m] else []
def slipsAt(s:List UInt8)(i:Nat):List (List UInt8):=slipAt s i (pnAt s i-1)++slipAt s i (pnAt s i+1)
def slipsFrom(s:List UInt8)(i:Nat):List (List UInt8):=(List.range' i (s.length-i)).flatMap (slipsAt s)
def slipsL(s:List UInt8):List (List UInt8):=slipsFrom s 0
theorem slipsFrom_cons {s:List UInt8}{i:Nat}(h:i<s.length):slipsFrom s i=slipsAt s i++slipsFrom s (i+1):=by
 unfold slipsFrom;rw[show s.length-i=(s.length-(i+1))+1 by omega];rfl
theorem slipsFrom_nil {s:List UInt8}{i:Nat}(h:s.length≤i):slipsFrom s i= []:=by
 unfold slipsFrom;rw[show s.length-i=0 by omega];rfl
theorem mem_slipsFrom {s x:List UInt8}{i:Nat}:x∈slipsFrom s i↔∃j,i≤j∧j<s.length∧x∈slipsAt s j:=by
 unfold slipsFrom;simp only[List.mem_flatMap,List.mem_range'_1];constructor
 · rintro⟨j,h1,h2⟩;exact⟨j,h1.1,by omega,h2⟩
 · rintro⟨j,h1,h2,h3⟩;exact⟨j,⟨h1,by omega⟩,h3⟩
def slipM(s:List UInt8)(i j:Nat):Nat:=if j=0 then pnAt s i-1 else pnAt s i+1
def slipsMid(s:List UInt8)(i j:Nat):List (List UInt8):=(if j=0 then slipAt s i (pnAt s i-1) else [])++((if j≤1 then slipAt s i (pnAt s i+1) else [])++slipsFrom s (i+1))
theorem slipsMid_next(s:List UInt8)(i j:Nat)(h:j<2):slipsMid s i j=slipAt s i (slipM s i j)++slipsMid s i (j+1):=by
 rcases(by omega:j=0∨j=1) with rfl|rfl
 · simp[slipsMid,slipM]
 · simp[slipsMid,slipM]
theorem slipsMid_two(s:List UInt8)(i:Nat):slipsMid s i 2=slipsFrom s (i+1):=by simp[slipsMid]
theorem slipsMid_zero {s:List UInt8}{i:Nat}(h:i<s.length):slipsFrom s i=slipsMid s i 0:=by
 rw[slipsFrom_cons h];simp[slipsMid,slipsAt]
def slipF(b:Nat):Value:=.func (.func 190) #[] #[.pointer (some ⟨b,0,none⟩)]
def CapS(s:List UInt8)(b:Nat)(H:View):Prop:=∃f,H b=some (f,.cells ⟨[strV s]⟩ 9 (0,0))
theorem CapS.le {s:List UInt8}{b:Nat}(H H':View)(h:H.le H')(c:CapS s b H):CapS s b H':=c.imp fun _ e=> h _ _ e
theorem dec_dig(s:List UInt8)(p:Nat)(hp:p<s.length)(hd:s.all dig=true):∃x,s[p]? =some x∧dig x=true∧Utf8.decode ⟨⟨s⟩⟩ p=(x.toNat,1):=by
 have hx:=List.getElem?_eq_getElem hp;have h1:dig s[p]=true:=List.all_eq_true.1 hd _ (List.getElem_mem hp);refine⟨s[p],hx,h1,?_⟩;obtain⟨z,w,h2,_,y,h3,h4,_⟩:=dec_at s p hp;rw[hx] at h3;cases h3
 have:=of_decide_eq_true h1;obtain⟨rfl,rfl⟩:=h4 (by omega);exact h2
section
variable(M:Md prog)(H:View)
theorem pulses_c(x:UInt8)(hx:dig x=true):CallT M 143 #[.int .i32 (x.toNat:Nat)] H (fun v H'=> H.le H'∧v=.int .i64 (pn x:Nat)):=by
 have hd:=of_decide_eq_true hx;by_cases c1:x.toNat=48
 · have e:pn x=10:=if_pos c1;rw[e,c1];refine .en func143 ntmps143 fun St c cs hK=> ?_;refine U15 ?_;refine .rt hK func143 results143 [_] ?_;exact okB
 · have e:pn x=x.toNat-48:=if_neg c1;rw[e];have c2:¬((x.toNat:Nat):Int)=48:=by omega
   have w1:intBin .sub .i32 ((x.toNat:Nat):Int) 48=some (.int .i32 ((x.toNat-48:Nat):Int)):=by
     have:IntKind.i32.wrap (((x.toNat:Nat):Int)-48)=((x.toNat-48:Nat):Int):=by
       rw[show((x.toNat:Nat):Int)-48=((x.toNat-48:Nat):Int) by omega];exact IntWalk.i32_in _ ⟨by omega,by omega⟩
     show some (Value.int _ (IntKind.i32.wrap _))=_;rw[this]
   have w2:IntKind.i64.wrap ((x.toNat-48:Nat):Int)=((x.toNat-48:Nat):Int):=wrap64 (by omega) (by omega);refine .en func143 ntmps143 fun St c cs hK=> ?_;refine U19 ?_;refine .rt hK func143 results143 [_] ?_;exact okB
theorem small_c(m:Nat)(hm:m<10):CallT M 251 #[.int .i64 (m:Nat)] H (fun v H'=> H.le H'∧v=strV [digB m]):=by
 have e:(([48,49,50,51,52,53,54,55,56,57,97,98,99,100,101,102,103,104,105,106,107,108,109,110,111,112,113,114,115,116,117,118,119,120,121,122]:List UInt8).drop ((m:Nat):Int).toNat).take ((((m:Nat):Int)+1).toNat-((m:Nat):Int).toNat)= [digB m]:=by
   rcases(by omega:m=0∨m=1∨m=2∨m=3∨m=4∨m=5∨m=6∨m=7∨m=8∨m=9) with rfl|rfl|rfl|rfl|rfl|rfl|rfl|rfl|rfl|rfl <;> rfl
 have hl:(([48,49,50,51,52,53,54,55,56,57,97,98,99,100,101,102,103,104,105,106,107,108,109,110,111,112,113,114,115,116,117,118,119,120,121,122]:List UInt8).length:Nat)=36:=rfl;rw[←e];refine .en func251 ntmps251 fun St c cs hK=> ?_;refine U16 ?_;refine .x (OpV.sliceS (E:=en) (l:= [48,49,50,51,52,53,54,55,56,57,97,98,99,100,101,102,103,104,105,106,107,108,109,110,111,112,113,114,115,116,117,118,119,120,121,122]) rfl rfl rfl rfl rfl rfl (by omega) (by omega) (by omega)) ?_;refine U2 ?_;refine .rt hK func251 results251 [_] ?_;exact okB
theorem FormatInt_c(m:Nat)(hm:m<10):CallT M 242 #[.int .i64 (m:Nat),.int .i64 10] H (fun v H'=> H.le H'∧v=strV [digB m]):=by
 refine .en func242 ntmps242 fun St c cs hK=> ?_;refine U25 ?_;refine .c rfl rfl rfl rfl (fun H hs=> .h (small_c M H m hm)) ?_;refine U2 ?_;refine .rt hK func242 results242 [_] ?_;exact okB
theorem Itoa0_c(m:Nat)(hm:m<10):CallT M 222 #[.int .i64 (m:Nat)] H (fun v H'=> H.le H'∧v=strV [digB m]):=by
 refine .en func222 ntmps222 fun St c cs hK=> ?_;refine U7 ?_;refine .c rfl rfl rfl rfl (fun H hs=> .h (FormatInt_c M H m hm)) ?_;refine U2 ?_;refine .rt hK func222 results222 [_] ?_;exact okB
theorem Itoa_c(m:Nat)(hm:m<10):CallT M 191 #[.int .i64 (m:Nat)] H (fun v H'=> H.le H'∧v=strV [digB m]):=by
 refine .en func191 ntmps191 fun St c cs hK=> ?_;refine U7 ?_;refine .c rfl rfl rfl rfl (fun H hs=> .h (Itoa0_c M H m hm)) ?_;refine U2 ?_;refine .rt hK func191 results191 [_] ?_;exact okB
theorem slips_c(s:List UInt8):CallT M 130 #[strV s] H (fun v H'=> H.le H'∧∃b,v=slipF b∧CapS s b H'):=by
 refine .en func130 ntmps130 fun St c cs hK=> ?_;refine U2 ?_;refine .bo fun b1=> ?_;refine U7 ?_;refine .rt hK func130 results130 [_] ?_;exact fun H' hs=> ⟨hs.base,b1,rfl,true,hs.get (i:=0) rfl⟩
theorem slips_it(s:List UInt8)(hs1:s.all dig=true)(hs2:s.length≤1000)(b1:Nat)(hC:CapS s b1 H):
   IterT M (slipF b1) (slipsL s) (fun x (_:Unit)=> [strV x]) (fun _ _=> []) (fun _ _=> []) (CapS s b1) [] H:=fun l J D hcap h0 hy H₀ hs₀=> by
 refine FnT.of (first:= []) (captured:= [_]) ca190 rfl ?_;obtain⟨fa,hb1⟩:=hC;refine CallT.enter (vs:= [.func (.yield l) #[] #[],.pointer (some ⟨b1,0,none⟩)]) func190 rfl ntmps190 (Nat.le_of_ble_eq_true rfl) (hs₀) fun St c cs hK=> ?_;refine U3 ?_;refine .e (Or.rangeS (E:=en) (s:=⟨⟨s⟩⟩) rfl rfl rfl rfl rfl (by decide) (fun it=> ?_));refine U2 ?_;refine Tc.db (Tc.loopB (σ:= { x:Nat×View//x.1≤s.length∧J (slipsFrom s x.1) x.2 })
   (fun x=> (x.1.2,[(0,.func (.yield l) #[] #[]),(1,.pointer (some ⟨b1,0,none⟩)),(8,.pointer (some ⟨it,0,none⟩))],[(it,true,.stringIter ⟨⟨s⟩⟩ x.1.1)])) (fun x=> s.length-x.1.1) ?_ ⟨(0,H),Nat.zero_le _,h0⟩)
 rintro⟨⟨p,H₁⟩,g1,j1⟩ ih₁;simp only at g1 j1;show Tc M St _ _ H₁ _ [(0,.func (.yield l) #[] #[]),(1,.pointer (some ⟨b1,0,none⟩)),(8,.pointer (some ⟨it,0,none⟩))] [(it,true,.stringIter ⟨⟨s⟩⟩ p)] _ _;by_cases c1:p=s.length
 · subst c1;rw[slipsFrom_nil (Nat.le_refl _)] at j1;have hnp:¬s.length<(ByteArray.mk ⟨s⟩).size:=by show ¬s.length<s.length;omega
   refine U2 ?_;refine .e (Or.nextS0 0 rfl rfl rfl hnp rfl (by decide) ?_);refine U5 ?_;refine .ov hK func190 results190 [] ?_;exact fun H' hs=> ⟨H₁,hs.base,.inl j1⟩
 · have c2:p<s.length:=by omega
   obtain⟨x,hx,hdx,hdec⟩:=dec_dig s p c2 hs1;have hpn:=pn_in hdx;have hps:p<(ByteArray.mk ⟨s⟩).size:=c2;have hpa:pnAt s p=pn x:=by unfold pnAt;rw[hx];rfl
   rw[slipsMid_zero c2] at j1;refine U2 ?_;refine .e (Or.nextS 0 rfl rfl rfl hps hdec rfl (by decide) ?_);refine U16 ?_;refine .c rfl rfl rfl rfl (fun H hs=> .h (pulses_c M H x hdx)) ?_;refine U2 ?_;refine .c rfl rfl rfl rfl (fun H hs=> .h (pulses_c M H x hdx)) ?_;refine U5 ?_;refine Tc.db (Tc.loopB (σ:= { y:Nat×View//y.1≤2∧J (slipsMid s p y.1) y.2 })
     (fun y=> (y.1.2,[(0,.func (.yield l) #[] #[]),(1,.pointer (some ⟨b1,0,none⟩)),(3,.int .i64 (p:Nat)),(8,.pointer (some ⟨it,0,none⟩)),(19,.agg ⟨[.int .i64 ((pn x:Nat)-1:Int),.int .i64 ((pn x:Nat)+1:Int)]⟩),(20,.int .i64 (y.1.1:Nat))],[(it,true,.stringIter ⟨⟨s⟩⟩ (p+1))])) (fun y=> 2-y.1.1) ?_ ⟨(0,H₁),by omega,j1⟩)
   rintro⟨⟨j,H₂⟩,g2,j2⟩ ih₂;simp only at g2 j2;show Tc M St _ _ H₂ _ [(0,.func (.yield l) #[] #[]),(1,.pointer (some ⟨b1,0,none⟩)),(3,.int .i64 (p:Nat)),(8,.pointer (some ⟨it,0,none⟩)),(19,.agg ⟨[.int .i64 ((pn x:Nat)-1:Int),.int .i64 ((pn x:Nat)+1:Int)]⟩),(20,.int .i64 (j:Nat))] [(it,true,.stringIter ⟨⟨s⟩⟩ (p+1))] _ _;by_cases c3:j=2
   · subst c3;rw[slipsMid_two] at j2;refine U8 ?_;exact Tc.db (ih₁ ⟨(p+1,H₂),by simp only;omega,j2⟩ (by simp only;omega))
   · have c4:j<2:=by omega
     obtain⟨m,hm⟩:∃m,slipM s p j=m:=⟨_,rfl⟩
     have f1:ldL false 1 [Value.int .i64 ((pn x:Nat)-1:Int),.int .i64 ((pn x:Nat)+1:Int)] (((j:Nat):Int).toNat*1)=some (.int .i64 (m:Nat)):=by
       rw[←hm];unfold slipM;rw[hpa];rcases(by omega:j=0∨j=1) with rfl|rfl
       · show some (Value.int .i64 _)=some (Value.int .i64 _)
         congr 2
         simp only[if_pos];omega
       · show some (Value.int .i64 _)=some (Value.int .i64 _)
         congr 2
     have hmb:m≤11:=by rw[←hm];unfold slipM;rw[hpa];split <;> omega
     rw[slipsMid_next s p j c4,hm] at j2;obtain⟨fc,hc1⟩:=hcap _ _ j2;by_cases c5:1≤((m:Nat):Int)∧((m:Nat):Int)≤10
     · have e1:slipAt s p m= [slip s p m]:=if_pos (by omega);rw[e1] at j2;have a2:intBin .rem .i64 (m:Nat) 10=some (.int .i64 ((m%10:Nat):Int)):=by rw[rem_in (by omega) (by omega)];rfl
       have hmem:slip s p m∈slipsL s:=by
         refine mem_slipsFrom.2 ⟨p,Nat.zero_le _,c2,?_⟩;have hm2:m=pnAt s p-1∨m=pnAt s p+1:=by rw[←hm];unfold slipM;split <;> simp
         unfold slipsAt;rcases hm2 with h|h
         · rw[List.mem_append];exact .inl (by rw[←h,e1];simp)
         · rw[List.mem_append];exact .inr (by rw[←h,e1];simp)
       have e2:(s.drop ((0:Nat):Int).toNat).take (((p:Nat):Int).toNat-((0:Nat):Int).toNat)++[digB (m%10)]++(s.drop (((p:Nat):Int)+1).toNat).take (((s.length:Nat):Int).toNat-(((p:Nat):Int)+1).toNat)=slip s p m:=by
         have e3:(((p:Nat):Int)+1).toNat=p+1:=by omega
         rw[dig_mod,e3];unfold slip;simp
         exact List.take_of_length_le (by rw[List.length_drop];exact Nat.le_refl _)
       have hlen:(slip s p m).length≤1001:=by
         unfold slip;simp
         omega
       refine U11 ?_;refine .x (OpV.index (E:=en) rfl rfl rfl rfl rfl rfl (by omega) (by omega) (by assumption)) ?_;refine U3 ?_;refine Tc.drC [] [16] [] mixed rfl ?_;refine .oo 0 ?_;refine Ta.tkC 1 (by kernel_rfl) rfl rfl (by decide) rfl rfl (OpV.takeCall rfl rfl rfl rfl (fun H hs=> .h (between_is M H (m:Nat) 1 10 true (decide_eq_true c5)))) ?_;refine .oo 2 ?_;refine .oo 3 ?_;refine .oo 4 ?_;refine .oo 5 ?_;refine Ta.tkC 6 (by kernel_rfl) rfl rfl (by decide) rfl rfl (OpV.take (OpV.sliceS (E:=en) rfl rfl rfl rfl rfl rfl (by omega) (by omega) (by omega))) ?_;refine .oo 7 ?_;refine .oo 8 ?_;refine Ta.tkC 9 (by kernel_rfl) rfl rfl (by decide) rfl rfl (OpV.takeCall rfl rfl rfl rfl (fun H hs=> .h (Itoa_c M H (m%10) (Nat.mod_lt _ (by decide))))) ?_;refine Ta.tkC 10 (by kernel_rfl) rfl rfl (by decide) rfl rfl (OpV.take (OpV.strB rfl rfl rfl (by exact strB_add (by simp <;> omega)))) ?_;refine .oo 11 ?_;refine .oo 12 ?_;refine .oo 13 ?_;refine Ta.tkC 14 (by kernel_rfl) rfl rfl (by decide) rfl rfl (OpV.take (OpV.sliceS (E:=en) rfl rfl rfl rfl rfl rfl (by omega) (by omega) (by omega))) ?_;refine Ta.tkC 15 (by kernel_rfl) rfl rfl (by decide) rfl rfl (OpV.take (OpV.strB rfl rfl rfl (by exact strB_add (by simp <;> omega)))) ?_;rw[e2];refine Ta.callF 16 (by kernel_rfl) rfl (by kernel_rfl) rfl rfl rfl rfl rfl rfl (by decide) (hy (slip s p m) (slipsMid s p (j+1)) () H₂ H₂ hmem j2 (SymSt.nil H₂)) (fun v H₃ hv=> ?_);rcases hv with ⟨rfl,H4,h8,j3⟩|⟨rfl,hD⟩
       · refine Ta.lower h8.base ?_;refine Ta.each [17] (by kernel_rfl) rfl ⟨TaOp.mk rfl rfl rfl (Or.ofV .nt rfl (by decide) ⟨S3.off (by kernel_rfl),?_⟩),trivial⟩;refine Ta.each [18] (by kernel_rfl) rfl ⟨TaOp.mk rfl rfl rfl (Or.ofV .pk rfl (by decide) ⟨S3.off (by kernel_rfl),?_⟩),trivial⟩;refine .dn ?_;refine U7 ?_;exact Tc.db (ih₂ ⟨(j+1,H4),by simp only;omega,j3⟩ (by simp only;omega))
       · refine Ta.each [17] (by kernel_rfl) rfl ⟨TaOp.mk rfl rfl rfl (Or.ofV .nt rfl (by decide) ⟨S3.off (by kernel_rfl),?_⟩),trivial⟩;refine Ta.each [18] (by kernel_rfl) rfl ⟨TaOp.mk rfl rfl rfl (Or.ofV .pk rfl (by decide) ⟨S3.off (by kernel_rfl),?_⟩),trivial⟩;refine .dn ?_;refine U ?_;refine .rt hK func190 results190 [] ?_;exact fun H' hs=> ⟨H₃,hs.base,.inr hD⟩
     · have e1:slipAt s p m= []:=if_neg (by omega);rw[e1] at j2;refine U11 ?_;refine .x (OpV.index (E:=en) rfl rfl rfl rfl rfl rfl (by omega) (by omega) (by assumption)) ?_;refine U3 ?_;refine Tc.dr [] [] mixed rfl ?_;refine .nn 0 ?_;refine .z 1 rfl (OpV.takeCall rfl rfl rfl rfl (fun H hs=> .h (between_is M H (m:Nat) 1 10 false (decide_eq_false c5)))) ?_;refine .nn 2 ?_;refine .nw 3 ?_;refine .nw 4 ?_;refine .nw 5 ?_;refine .nw 6 ?_;refine .nw 7 ?_;refine .nw 8 ?_;refine .nw 9 ?_;refine .nw 10 ?_;refine .nw 11 ?_;refine .nw 12 ?_;refine .nw 13 ?_;refine .nw 14 ?_;refine .nw 15 ?_;refine .nw 16 ?_;refine .nw 17 ?_;refine .nn 18 ?_;refine .dn ?_;refine U7 ?_;exact Tc.db (ih₂ ⟨(j+1,H₂),by simp only;omega,j2⟩ (by simp only;omega))
end
end Go.Proofs.YtdnfdeplcjaonaaGreatDoor
namespace Go.Proofs.YtdnfdeplcjaonaaGreatDoor
open Go.RL Go.Proofs.Tryz
set_option maxRecDepth 10000
def at0(l:List Int)(i:Nat):Int:=l[i]?.getD 0
def swapL(l:List Int)(p q:Nat):List Int:=(l.set p (at0 l q)).set q (at0 l p)
theorem swapL_len(l:List Int)(p q:Nat):(swapL l p q).length=l.length:=by simp[swapL]
theorem swapL_at {l:List Int}{p q:Nat}(hp:p<l.length)(hq:q<l.length)(r:Nat):at0 (swapL l p q) r=if r=q then at0 l p else if r=p then at0 l q else at0 l r:=by
 unfold swapL at0;rw[List.getElem?_set];by_cases h1:q=r
 · subst h1;rw[if_pos rfl,if_pos (by rw[List.length_set];exact hq),if_pos rfl];rfl
 · rw[if_neg h1,if_neg (fun h=> h1 h.symm),List.getElem?_set];by_cases h2:p=r
   · subst h2;rw[if_pos rfl,if_pos hp,if_pos rfl];rfl
   · rw[if_neg h2,if_neg (fun h=> h2 h.symm)]
theorem swapL_count {l:List Int}{p q:Nat}(hp:p<l.length)(hq:q<l.length)(x:Int):(swapL l p q).count x=l.count x:=by
 unfold swapL at0;rw[List.getElem?_eq_getElem hp,List.getElem?_eq_getElem hq];simp only[Option.getD_some];rw[List.count_set (by rw[List.length_set];exact hq),List.count_set hp,List.getElem_set];have h1:∀ {i:Nat} (h:i<l.length),l[i]=x→0<l.count x:=fun h e=> List.count_pos_iff.2 (e▸List.getElem_mem h);by_cases e:p=q
 · subst e;simp only[if_true];by_cases e2:l[p]=x
   · have:=h1 hp e2;simp only[e2,beq_self_eq_true,if_true];omega
   · have e3:(l[p]==x)=false:=by simpa using e2
     simp only[e3,Bool.false_eq_true,if_false];omega
 · simp only[if_neg e];by_cases e2:l[p]=x <;> by_cases e3:l[q]=x
   · have:=h1 hp e2;simp only[e2,e3,beq_self_eq_true,if_true];omega
   · have e4:(l[q]==x)=false:=by simpa using e3
     have:=h1 hp e2;simp only[e2,e4,beq_self_eq_true,if_true,Bool.false_eq_true,if_false];omega
   · have e4:(l[p]==x)=false:=by simpa using e2
     have:=h1 hq e3;simp only[e3,e4,beq_self_eq_true,if_true,Bool.false_eq_true,if_false];omega
   · have e4:(l[p]==x)=false:=by simpa using e2
     have e5:(l[q]==x)=false:=by simpa using e3
     simp only[e4,e5,Bool.false_eq_true,if_false];omega
structure Turned(a b:Nat)(l m:List Int):Prop where
 len:m.length=l.length
 cnt:∀x,m.count x=l.count x
 out:∀i,i<a∨b≤i→at0 m i=at0 l i
theorem Turned.refl(a b:Nat)(l:List Int):Turned a b l l:=⟨rfl,fun _=> rfl,fun _ _=> rfl⟩
theorem Turned.trans {a b:Nat}{l m n:List Int}(h:Turned a b l m)(k:Turned a b m n):Turned a b l n:=⟨k.len.trans h.len,fun x=> (k.cnt x).trans (h.cnt x),fun i hi=> (k.out i hi).trans (h.out i hi)⟩
theorem Turned.wide {a b a' b':Nat}{l m:List Int}(h:Turned a b l m)(h1:a'≤a)(h2:b≤b'):Turned a' b' l m:=⟨h.len,h.cnt,fun i hi=> h.out i (by omega)⟩
theorem Turned.swap {a b:Nat}{l:List Int}{p q:Nat}(hp:p<l.length)(hq:q<l.length)(h1:a≤p∧p<b)(h2:a≤q∧q<b):Turned a b l (swapL l p q):=
 ⟨swapL_len ..,swapL_count hp hq,fun i hi=> by rw[swapL_at hp hq,if_neg (by omega),if_neg (by omega)]⟩
def Srt(a b:Nat)(l:List Int):Prop:=∀p q,a≤p→p<q→q<b→at0 l p≤at0 l q
theorem Turned.mem {a b:Nat}{l m:List Int}(h:Turned a b l m)(x:Int):x∈m↔x∈l:=by
 rw[←List.count_pos_iff,←List.count_pos_iff,h.cnt x]
theorem at0_mem {l:List Int}{p:Nat}(h:p<l.length):at0 l p∈l:=by
 unfold at0;rw[List.getElem?_eq_getElem h];exact List.getElem_mem h
set_option maxHeartbeats 8000000
theorem stL_one(l:List Value)(i:Nat)(v:Value)(h:i<l.length):stL l i [v]=l.set i v:=by
 unfold stL;rw[List.set_eq_take_append_cons_drop,if_pos h];simp
def strsL(dec:Int→List UInt8)(m:List Int):List Value:=m.map fun x=> strV (dec x)
theorem strsL_len(dec:Int→List UInt8)(m:List Int):(strsL dec m).length=m.length:=by simp[strsL]
def Enc(dec:Int→List UInt8)(l:List Int):Prop:=∀x∈l,∀y∈l,Op.bytesLess (dec x) (dec y)=decide (x<y)
theorem Enc.turned {dec:Int→List UInt8}{l m:List Int}{a b:Nat}(h:Enc dec l)(t:Turned a b l m):Enc dec m:=fun x hx y hy=> h x ((t.mem x).1 hx) y ((t.mem y).1 hy)
theorem SymSt_turn {H₀ H H':View}{L:Bl}(h:SymSt H₀ L H){i sb:Nat}{x y:Bool×Obj}(hi:L[i]? =some (sb,x))(h1:∀b z,b≠sb→H b=some z→H' b=some z)(h2:H' sb=some y):SymSt H₀ (L.set i (sb,y)) H':=
 (h.set hi y).mono fun b z hb=> by
   by_cases e:b=sb
   · subst e;rw[View.put_same] at hb;rw[h2,hb]
   · rw[View.put_other _ _ e] at hb;exact h1 b z e hb
def SortSQ(dec:Int→List UInt8)(H:View)(sb:Nat)(j:List Value)(P:Value→List Int→Prop)(v:Value)(H':View):Prop:=
 (∀b x,b≠sb→H b=some x→H' b=some x)∧∃m,P v m∧H' sb=some (true,.cells ⟨(strsL dec m)++j⟩ 9 (0,0))
theorem SortSQ.of {dec:Int→List UInt8}{H H':View}{sb:Nat}{j:List Value}{P:Value→List Int→Prop}{v:Value}{L:Bl}{m:List Int}(hs:SymSt (H.without sb) L H'){i:Nat}(hi:L[i]? =some (sb,true,.cells ⟨(strsL dec m)++j⟩ 9 (0,0)))(hP:P v m):SortSQ dec H sb j P v H':=
 ⟨fun b x hb hx=> hs.base b x (by rw[without_other hb];exact hx),m,hP,hs.get hi⟩
theorem Or.sortsS {dec:Int→List UInt8}{M:Md prog}{n:Nat}{H₀:View}{R:Rg}{L:Bl}{o:Oper}{K:Rg→Bl→Prop}{cl:Go.Call}{x:Operand}{fv:Value}{az:List Value}{d:Nat}(i:Nat){sb:Nat}{l:List Int}{j:List Value}(P:Value→List Int→Prop)
   (hop:o.op=.call cl) (hcl:cl.callee=.value x) (hx:evR R x=some fv) (has:evRs R cl.args.toList=some az) (hd:o.dst=some d) (hn:d<n) (hi:L[i]? =some (sb,true,.cells ⟨(strsL dec l)++j⟩ 9 (0,0)))
   (hc:∀H,SymSt H₀ L H→FnT M fv az H (SortSQ dec H sb j P)) (hk:∀v m,P v m→K ((d,v)::R) (L.set i (sb,true,.cells ⟨(strsL dec m)++j⟩ 9 (0,0)))):Or M n H₀ R L o K:=
 .callV hop hcl hx has (Q:=fun H v H'=> SortSQ dec H sb j P v H') hc fun H v H' hs ⟨h1,m,h2,h3⟩=>
   ⟨_,_,SymSt_turn hs hi h1 h3,by rw[hd];exact⟨hn,rfl⟩,hk v m h2⟩
theorem cellsS_ld {dec:Int→List UInt8}{m:List Int}{j:List Value}{k:Int}{p:Nat}(hk:k=(p:Nat))(hp:p<m.length):ldL false 1 ((strsL dec m)++j) (0+k.toNat*1)=some (strV (dec (at0 m p))):=by
 subst hk;show((strsL dec m)++j)[0+(p:Int).toNat*1]? =_;rw[Nat.zero_add,Nat.mul_one,Int.toNat_natCast,List.getElem?_append_left (by rw[strsL_len];exact hp)];unfold strsL at0;rw[List.getElem?_map,List.getElem?_eq_getElem hp];rfl
theorem cellsS_st {dec:Int→List UInt8}{m:List Int}{j:List Value}{k x:Int}{p:Nat}(hk:k=(p:Nat))(hp:p<m.length):stL ((strsL dec m)++j) (0+k.toNat*1) [strV (dec (x))]=(strsL dec (m.set p x))++j:=by
 subst hk;rw[Nat.zero_add,Nat.mul_one,Int.toNat_natCast,stL_one _ _ _ (by rw[List.length_append,strsL_len];omega),List.set_append_left _ _ (by rw[strsL_len];exact hp)];unfold strsL;rw[List.map_set]
theorem cellsS_le {dec:Int→List UInt8}{m:List Int}{j:List Value}{k:Int}{p:Nat}(hk:k=(p:Nat))(hp:p<m.length):Nat.ble (0+k.toNat*1+1) ((strsL dec m)++j).length=true:=by
 subst hk;rw[Nat.ble_eq,List.length_append,strsL_len,Int.toNat_natCast];omega
section
variable(M:Md prog)(H:View)
theorem isNaNS_c(s:List UInt8):CallT M 237 #[strV s] H (fun v H'=> H.le H'∧v=.bool false):=by
 refine .en func237 ntmps237 fun St c cs hK=> ?_;refine U11 ?_;refine .rt hK func237 results237 [_] ?_;exact fun H' hs=> ⟨hs.base,by simp[packV]⟩
theorem LessS_c(s p:List UInt8):CallT M 204 #[strV s,strV p] H (fun v H'=> H.le H'∧v=.bool (Op.bytesLess s p)):=by
 refine .en func204 ntmps204 fun St c cs hK=> ?_;refine U7 ?_;refine .c rfl rfl rfl rfl (fun H hs=> .h (isNaNS_c M H s)) ?_;refine U12 ?_;refine .rt hK func204 results204 [_] ?_;exact okB
theorem lessS {dec:Int→List UInt8}{l:List Int}(hE:Enc dec l){x y:Int}(hx:x∈l)(hy:y∈l)(t:Bool)(ht:decide (x<y)=t):CallT M 204 #[strV (dec x),strV (dec y)] H (fun v H'=> H.le H'∧v=.bool t):=
 isB (LessS_c M H (dec x) (dec y)) ((hE x hx y hy).trans ht)
end
theorem ins_out {m:List Int}{a i j:Nat}(hg:∀p q,a≤p→p<q→q≤i→q≠j→at0 m p≤at0 m q)(hj:a<j)(hle:¬at0 m j<at0 m (j-1)):Srt a (i+1) m:=fun p q h1 h2 h3=> by
 by_cases e:q=j
 · subst e;have h4:at0 m p≤at0 m (q-1):=by
     by_cases e2:p=q-1
     · rw[e2];exact Int.le_refl _
     · exact hg p (q-1) h1 (by omega) (by omega) (by omega)
   omega
 · exact hg p q h1 h2 (by omega) e
theorem ins_step {m:List Int}{a i j:Nat}(hi:i<m.length)(hji:j≤i)(hg:∀p q,a≤p→p<q→q≤i→q≠j→at0 m p≤at0 m q)(hj:a<j)(hlt:at0 m j<at0 m (j-1)):
   ∀p q,a≤p→p<q→q≤i→q≠j-1→at0 (swapL m j (j-1)) p≤at0 (swapL m j (j-1)) q:=fun p q h1 h2 h3 h4=> by
 rw[swapL_at (by omega) (by omega),swapL_at (by omega) (by omega),if_neg h4];by_cases e:q=j
 · rw[if_pos e];by_cases e2:p=j-1
   · rw[if_pos e2];omega
   · rw[if_neg e2,if_neg (by omega)];exact hg p (j-1) h1 (by omega) (by omega) (by omega)
 · rw[if_neg e];by_cases e2:p=j-1
   · rw[if_pos e2];exact hg j q (by omega) (by omega) h3 e
   · rw[if_neg e2];by_cases e3:p=j
     · rw[if_pos e3];exact hg (j-1) q (by omega) (by omega) h3 e
     · rw[if_neg e3];exact hg p q h1 h2 h3 e
section
variable(M:Md prog)(H:View)
theorem insertionS_c(dec:Int→List UInt8)(sb:Nat)(l:List Int)(jj:List Value)(n cap a b:Nat)(hn:n=l.length)(hE:Enc dec l)(hb:b≤n)(h1000:n≤100000000)(ha:a≤n)(hS:H sb=some (true,.cells ⟨(strsL dec l)++jj⟩ 9 (0,0))):
   CallT M 198 #[.slice (some ⟨sb,0,none⟩) n cap,.int .i64 (a:Nat),.int .i64 (b:Nat)] H (SortSQ dec H sb jj (fun v m=> v=.tuple ⟨[]⟩∧Turned a b l m∧Srt a b m)):=by
 refine CallT.enter (vs:= [.slice (some ⟨sb,0,none⟩) n cap,.int .i64 (a:Nat),.int .i64 (b:Nat)]) func198 rfl ntmps198 (Nat.le_of_ble_eq_true rfl) (SymSt.pull hS) fun St c cs hK=> ?_;have ha1:intBin .add .i64 (a:Nat) 1=some (.int .i64 ((a+1:Nat):Int)):=by rw[add_in (by omega) (by omega)];rfl
 refine U7 ?_;refine Tc.db (Tc.loopInv (σ:= { s:Nat×List Int//a+1≤s.1∧(s.1≤b∨s.1=a+1)∧Turned a b l s.2∧Srt a s.1 s.2 }) (fun s=> ([(0,.slice (some ⟨sb,0,none⟩) n cap),(1,.int .i64 (a:Nat)),(2,.int .i64 (b:Nat)),(6,.int .i64 (s.1.1:Nat))],[(sb,true,.cells ⟨(strsL dec s.1.2)++jj⟩ 9 (0,0))])) (fun s=> b-s.1.1) ?_
   ⟨(a+1,l),by simp,by simp,Turned.refl ..,fun p q h1 h2 h3=> by omega⟩)
 rintro⟨⟨i,m⟩,g1,g2,g3,g4⟩ ih;simp only at g1 g2 g3 g4;show Tc M St _ _ _ _ [(0,.slice (some ⟨sb,0,none⟩) n cap),(1,.int .i64 (a:Nat)),(2,.int .i64 (b:Nat)),(6,.int .i64 (i:Nat))] [(sb,true,.cells ⟨(strsL dec m)++jj⟩ 9 (0,0))] _ _;by_cases c1:i<b
 · have hml:=g3.len;have hi1:intBin .add .i64 (i:Nat) 1=some (.int .i64 ((i+1:Nat):Int)):=by rw[add_in (by omega) (by omega)];rfl
   refine U17 ?_;refine Tc.db (Tc.loopInv (σ:= { s:Nat×List Int//a≤s.1∧s.1≤i∧Turned a b l s.2∧∀p q,a≤p→p<q→q≤i→q≠s.1→at0 s.2 p≤at0 s.2 q }) (fun s=> ([(0,.slice (some ⟨sb,0,none⟩) n cap),(1,.int .i64 (a:Nat)),(2,.int .i64 (b:Nat)),(6,.int .i64 (i:Nat)),(7,.int .i64 (s.1.1:Nat))],[(sb,true,.cells ⟨(strsL dec s.1.2)++jj⟩ 9 (0,0))])) (fun s=> s.1.1) ?_
     ⟨(i,m),by simp only;omega,by simp only;omega,g3,fun p q h1 h2 h3 h4=> g4 p q h1 h2 (by simp only at h4;omega)⟩)
   rintro⟨⟨j,u⟩,f1,f2,f3,f4⟩ ih2;simp only at f1 f2 f3 f4;have hul:=f3.len;have hEu:=hE.turned f3;show Tc M St _ _ _ _ [(0,.slice (some ⟨sb,0,none⟩) n cap),(1,.int .i64 (a:Nat)),(2,.int .i64 (b:Nat)),(6,.int .i64 (i:Nat)),(7,.int .i64 (j:Nat))] [(sb,true,.cells ⟨(strsL dec u)++jj⟩ 9 (0,0))] _ _;by_cases c2:a<j
   · have e1:((j:Nat):Int)-1=((j-1:Nat):Int):=by omega
     have k1:=cellsS_ld (dec:=dec) (m:=u) (j:=jj) (k:=(j:Nat)) (p:=j) rfl (by omega);have k2:=cellsS_ld (dec:=dec) (m:=u) (j:=jj) (k:=(j:Nat)-1) (p:=j-1) e1 (by omega);by_cases c3:at0 u j<at0 u (j-1)
     · have s1:=cellsS_st (dec:=dec) (m:=u) (j:=jj) (k:=(j:Nat)) (x:=at0 u (j-1)) (p:=j) rfl (by omega);have s2:=cellsS_st (dec:=dec) (m:=u.set j (at0 u (j-1))) (j:=jj) (k:=(j:Nat)-1) (x:=at0 u j) (p:=j-1) e1 (by rw[List.length_set];omega);have l1:=cellsS_le (dec:=dec) (m:=u) (j:=jj) (k:=(j:Nat)) (p:=j) rfl (by omega);have l2:=cellsS_le (dec:=dec) (m:=u.set j (at0 u (j-1))) (j:=jj) (k:=(j:Nat)-1) (p:=j-1) e1 (by rw[List.length_set];omega);refine U2 ?_;refine Tc.dr [] [] mixed rfl ?_;refine .nn 0 ?_;refine .nn 1 ?_;refine .nn 2 ?_;refine .nn 3 ?_;refine .nn 4 ?_;refine .nn 5 ?_;refine .nn 6 ?_;refine .nn 7 ?_;refine .nn 8 ?_;refine .nn 9 ?_;refine .nn 10 ?_;refine .nn 11 ?_;refine .nn 12 ?_;refine .z 13 rfl (OpV.takeCall rfl rfl rfl rfl (fun H hs=> .h (lessS M H hEu (at0_mem (by omega)) (at0_mem (by omega)) true (decide_eq_true c3)))) ?_;refine .nn 14 ?_;refine .dn ?_;refine U4 ?_;refine Tc.dr [15,17] [0] mixed rfl ?_;refine .nn 0 ?_;refine .nn 1 ?_;refine .nw 2 ?_;refine .nw 3 ?_;refine .nw 4 ?_;refine .nn 5 ?_;refine .nn 6 ?_;refine .nn 7 ?_;refine .nn 8 ?_;refine .nn 9 ?_;refine .nw 10 ?_;refine .nw 11 ?_;refine .nw 12 ?_;refine .nn 13 ?_;refine .nn 14 ?_;refine .e 15 0 ?_;refine .nw 16 ?_;refine .e 17 0 ?_;refine .dn ?_;refine U6 ?_;rw[e1];exact Tc.db (ih2 ⟨(j-1,swapL u j (j-1)),by simp only;omega,by simp only;omega,f3.trans (Turned.swap (by omega) (by omega) (by omega) (by omega)),ins_step (by omega) f2 f4 c2 c3⟩ (by simp only;omega))
     · refine U2 ?_;refine Tc.dr [] [] mixed rfl ?_;refine .nn 0 ?_;refine .nn 1 ?_;refine .nn 2 ?_;refine .nn 3 ?_;refine .nn 4 ?_;refine .nn 5 ?_;refine .nn 6 ?_;refine .nn 7 ?_;refine .nn 8 ?_;refine .nn 9 ?_;refine .nn 10 ?_;refine .nn 11 ?_;refine .nn 12 ?_;refine .z 13 rfl (OpV.takeCall rfl rfl rfl rfl (fun H hs=> .h (lessS M H hEu (at0_mem (by omega)) (at0_mem (by omega)) false (decide_eq_false c3)))) ?_;refine .nn 14 ?_;refine .dn ?_;refine U8 ?_;exact Tc.db (ih ⟨(i+1,u),by simp only;omega,by simp only;omega,f3,ins_out f4 c2 c3⟩ (by simp only;omega))
   · refine U2 ?_;refine Tc.dr [] [] mixed rfl ?_;refine .nn 0 ?_;refine .nn 1 ?_;refine .nn 2 ?_;refine .nn 3 ?_;refine .nw 4 ?_;refine .nw 5 ?_;refine .nw 6 ?_;refine .nw 7 ?_;refine .nw 8 ?_;refine .nw 9 ?_;refine .nw 10 ?_;refine .nw 11 ?_;refine .nw 12 ?_;refine .nw 13 ?_;refine .nn 14 ?_;refine .dn ?_;refine U8 ?_;exact Tc.db (ih ⟨(i+1,u),by simp only;omega,by simp only;omega,f3,fun p q h1 h2 h3=> f4 p q h1 h2 (by omega) (by omega)⟩ (by simp only;omega))
 · refine U9 ?_;refine .ov hK func198 results198 [] ?_;exact fun H' hs=> SortSQ.of hs (i:=0) rfl ⟨rfl,g3,fun p q h1 h2 h3=> g4 p q h1 h2 (by omega)⟩
end
def intsL(m:List Int):List Value:=m.map fun x=> .int .i64 x
theorem intsL_len(m:List Int):(intsL m).length=m.length:=by simp[intsL]
def SortIQ(H:View)(sb:Nat)(j:List Value)(P:Value→List Int→Prop)(v:Value)(H':View):Prop:=
 (∀b x,b≠sb→H b=some x→H' b=some x)∧∃m,P v m∧H' sb=some (true,.cells ⟨(intsL m)++j⟩ 3 (0,0))
theorem SortIQ.of {H H':View}{sb:Nat}{j:List Value}{P:Value→List Int→Prop}{v:Value}{L:Bl}{m:List Int}(hs:SymSt (H.without sb) L H'){i:Nat}(hi:L[i]? =some (sb,true,.cells ⟨(intsL m)++j⟩ 3 (0,0)))(hP:P v m):SortIQ H sb j P v H':=
 ⟨fun b x hb hx=> hs.base b x (by rw[without_other hb];exact hx),m,hP,hs.get hi⟩
theorem Or.sortsI {M:Md prog}{n:Nat}{H₀:View}{R:Rg}{L:Bl}{o:Oper}{K:Rg→Bl→Prop}{cl:Go.Call}{x:Operand}{fv:Value}{az:List Value}{d:Nat}(i:Nat){sb:Nat}{l:List Int}{j:List Value}(P:Value→List Int→Prop)
   (hop:o.op=.call cl) (hcl:cl.callee=.value x) (hx:evR R x=some fv) (has:evRs R cl.args.toList=some az) (hd:o.dst=some d) (hn:d<n) (hi:L[i]? =some (sb,true,.cells ⟨(intsL l)++j⟩ 3 (0,0)))
   (hc:∀H,SymSt H₀ L H→FnT M fv az H (SortIQ H sb j P)) (hk:∀v m,P v m→K ((d,v)::R) (L.set i (sb,true,.cells ⟨(intsL m)++j⟩ 3 (0,0)))):Or M n H₀ R L o K:=
 .callV hop hcl hx has (Q:=fun H v H'=> SortIQ H sb j P v H') hc fun H v H' hs ⟨h1,m,h2,h3⟩=>
   ⟨_,_,SymSt_turn hs hi h1 h3,by rw[hd];exact⟨hn,rfl⟩,hk v m h2⟩
theorem cellsI_ld {m:List Int}{j:List Value}{k:Int}{p:Nat}(hk:k=(p:Nat))(hp:p<m.length):ldL false 1 ((intsL m)++j) (0+k.toNat*1)=some (.int .i64 (at0 m p)):=by
 subst hk;show((intsL m)++j)[0+(p:Int).toNat*1]? =_;rw[Nat.zero_add,Nat.mul_one,Int.toNat_natCast,List.getElem?_append_left (by rw[intsL_len];exact hp)];unfold intsL at0;rw[List.getElem?_map,List.getElem?_eq_getElem hp];rfl
theorem cellsI_st {m:List Int}{j:List Value}{k x:Int}{p:Nat}(hk:k=(p:Nat))(hp:p<m.length):stL ((intsL m)++j) (0+k.toNat*1) [.int .i64 (x)]=(intsL (m.set p x))++j:=by
 subst hk;rw[Nat.zero_add,Nat.mul_one,Int.toNat_natCast,stL_one _ _ _ (by rw[List.length_append,intsL_len];omega),List.set_append_left _ _ (by rw[intsL_len];exact hp)];unfold intsL;rw[List.map_set]
theorem cellsI_le {m:List Int}{j:List Value}{k:Int}{p:Nat}(hk:k=(p:Nat))(hp:p<m.length):Nat.ble (0+k.toNat*1+1) ((intsL m)++j).length=true:=by
 subst hk;rw[Nat.ble_eq,List.length_append,intsL_len,Int.toNat_natCast];omega
section
variable(M:Md prog)(H:View)
theorem isNaNI_c(s:Int):CallT M 246 #[.int .i64 s] H (fun v H'=> H.le H'∧v=.bool false):=by
 refine .en func246 ntmps246 fun St c cs hK=> ?_;refine U11 ?_;refine .rt hK func246 results246 [_] ?_;exact okB
theorem LessI_c(a b:Int)(t:Bool)(ht:decide (a<b)=t):CallT M 229 #[.int .i64 a,.int .i64 b] H (fun v H'=> H.le H'∧v=.bool t):=by
 rw[←ht];refine .en func229 ntmps229 fun St c cs hK=> ?_;by_cases c1:a<b
 · have e:decide (a<b)=true:=decide_eq_true c1;rw[e] at hK;refine U7 ?_;refine .c rfl rfl rfl rfl (fun H hs=> .h (isNaNI_c M H a)) ?_;refine U12 ?_;refine .rt hK func229 results229 [_] ?_;exact okB
 · have e:decide (a<b)=false:=decide_eq_false c1;rw[e] at hK;refine U7 ?_;refine .c rfl rfl rfl rfl (fun H hs=> .h (isNaNI_c M H a)) ?_;refine U12 ?_;refine .rt hK func229 results229 [_] ?_;exact okB
end
section
variable(M:Md prog)(H:View)
theorem insertionI_c(sb:Nat)(l:List Int)(jj:List Value)(n cap a b:Nat)(hn:n=l.length)(hb:b≤n)(h1000:n≤1000000)(ha:a≤n)(hS:H sb=some (true,.cells ⟨(intsL l)++jj⟩ 3 (0,0))):
   CallT M 223 #[.slice (some ⟨sb,0,none⟩) n cap,.int .i64 (a:Nat),.int .i64 (b:Nat)] H (SortIQ H sb jj (fun v m=> v=.tuple ⟨[]⟩∧Turned a b l m∧Srt a b m)):=by
 refine CallT.enter (vs:= [.slice (some ⟨sb,0,none⟩) n cap,.int .i64 (a:Nat),.int .i64 (b:Nat)]) func223 rfl ntmps223 (Nat.le_of_ble_eq_true rfl) (SymSt.pull hS) fun St c cs hK=> ?_;have ha1:intBin .add .i64 (a:Nat) 1=some (.int .i64 ((a+1:Nat):Int)):=by rw[add_in (by omega) (by omega)];rfl
 refine U7 ?_;refine Tc.db (Tc.loopInv (σ:= { s:Nat×List Int//a+1≤s.1∧(s.1≤b∨s.1=a+1)∧Turned a b l s.2∧Srt a s.1 s.2 }) (fun s=> ([(0,.slice (some ⟨sb,0,none⟩) n cap),(1,.int .i64 (a:Nat)),(2,.int .i64 (b:Nat)),(6,.int .i64 (s.1.1:Nat))],[(sb,true,.cells ⟨(intsL s.1.2)++jj⟩ 3 (0,0))])) (fun s=> b-s.1.1) ?_
   ⟨(a+1,l),by simp,by simp,Turned.refl ..,fun p q h1 h2 h3=> by omega⟩)
 rintro⟨⟨i,m⟩,g1,g2,g3,g4⟩ ih;simp only at g1 g2 g3 g4;show Tc M St _ _ _ _ [(0,.slice (some ⟨sb,0,none⟩) n cap),(1,.int .i64 (a:Nat)),(2,.int .i64 (b:Nat)),(6,.int .i64 (i:Nat))] [(sb,true,.cells ⟨(intsL m)++jj⟩ 3 (0,0))] _ _;by_cases c1:i<b
 · have hml:=g3.len;have hi1:intBin .add .i64 (i:Nat) 1=some (.int .i64 ((i+1:Nat):Int)):=by rw[add_in (by omega) (by omega)];rfl
   refine U17 ?_;refine Tc.db (Tc.loopInv (σ:= { s:Nat×List Int//a≤s.1∧s.1≤i∧Turned a b l s.2∧∀p q,a≤p→p<q→q≤i→q≠s.1→at0 s.2 p≤at0 s.2 q }) (fun s=> ([(0,.slice (some ⟨sb,0,none⟩) n cap),(1,.int .i64 (a:Nat)),(2,.int .i64 (b:Nat)),(6,.int .i64 (i:Nat)),(7,.int .i64 (s.1.1:Nat))],[(sb,true,.cells ⟨(intsL s.1.2)++jj⟩ 3 (0,0))])) (fun s=> s.1.1) ?_
     ⟨(i,m),by simp only;omega,by simp only;omega,g3,fun p q h1 h2 h3 h4=> g4 p q h1 h2 (by simp only at h4;omega)⟩)
   rintro⟨⟨j,u⟩,f1,f2,f3,f4⟩ ih2;simp only at f1 f2 f3 f4;have hul:=f3.len
   
   show Tc M St _ _ _ _ [(0,.slice (some ⟨sb,0,none⟩) n cap),(1,.int .i64 (a:Nat)),(2,.int .i64 (b:Nat)),(6,.int .i64 (i:Nat)),(7,.int .i64 (j:Nat))] [(sb,true,.cells ⟨(intsL u)++jj⟩ 3 (0,0))] _ _;by_cases c2:a<j
   · have e1:((j:Nat):Int)-1=((j-1:Nat):Int):=by omega
     have k1:=cellsI_ld (m:=u) (j:=jj) (k:=(j:Nat)) (p:=j) rfl (by omega);have k2:=cellsI_ld (m:=u) (j:=jj) (k:=(j:Nat)-1) (p:=j-1) e1 (by omega);by_cases c3:at0 u j<at0 u (j-1)
     · have s1:=cellsI_st (m:=u) (j:=jj) (k:=(j:Nat)) (x:=at0 u (j-1)) (p:=j) rfl (by omega);have s2:=cellsI_st (m:=u.set j (at0 u (j-1))) (j:=jj) (k:=(j:Nat)-1) (x:=at0 u j) (p:=j-1) e1 (by rw[List.length_set];omega);have l1:=cellsI_le (m:=u) (j:=jj) (k:=(j:Nat)) (p:=j) rfl (by omega);have l2:=cellsI_le (m:=u.set j (at0 u (j-1))) (j:=jj) (k:=(j:Nat)-1) (p:=j-1) e1 (by rw[List.length_set];omega);refine U2 ?_;refine Tc.dr [] [] mixed rfl ?_;refine .nn 0 ?_;refine .nn 1 ?_;refine .nn 2 ?_;refine .nn 3 ?_;refine .nn 4 ?_;refine .nn 5 ?_;refine .nn 6 ?_;refine .nn 7 ?_;refine .nn 8 ?_;refine .nn 9 ?_;refine .nn 10 ?_;refine .nn 11 ?_;refine .nn 12 ?_;refine .z 13 rfl (OpV.takeCall rfl rfl rfl rfl (fun H hs=> .h (LessI_c M H (at0 u j) (at0 u (j-1)) true (decide_eq_true c3)))) ?_;refine .nn 14 ?_;refine .dn ?_;refine U4 ?_;refine Tc.dr [15,17] [0] mixed rfl ?_;refine .nn 0 ?_;refine .nn 1 ?_;refine .nw 2 ?_;refine .nw 3 ?_;refine .nw 4 ?_;refine .nn 5 ?_;refine .nn 6 ?_;refine .nn 7 ?_;refine .nn 8 ?_;refine .nn 9 ?_;refine .nw 10 ?_;refine .nw 11 ?_;refine .nw 12 ?_;refine .nn 13 ?_;refine .nn 14 ?_;refine .e 15 0 ?_;refine .nw 16 ?_;refine .e 17 0 ?_;refine .dn ?_;refine U6 ?_;rw[e1];exact Tc.db (ih2 ⟨(j-1,swapL u j (j-1)),by simp only;omega,by simp only;omega,f3.trans (Turned.swap (by omega) (by omega) (by omega) (by omega)),ins_step (by omega) f2 f4 c2 c3⟩ (by simp only;omega))
     · refine U2 ?_;refine Tc.dr [] [] mixed rfl ?_;refine .nn 0 ?_;refine .nn 1 ?_;refine .nn 2 ?_;refine .nn 3 ?_;refine .nn 4 ?_;refine .nn 5 ?_;refine .nn 6 ?_;refine .nn 7 ?_;refine .nn 8 ?_;refine .nn 9 ?_;refine .nn 10 ?_;refine .nn 11 ?_;refine .nn 12 ?_;refine .z 13 rfl (OpV.takeCall rfl rfl rfl rfl (fun H hs=> .h (LessI_c M H (at0 u j) (at0 u (j-1)) false (decide_eq_false c3)))) ?_;refine .nn 14 ?_;refine .dn ?_;refine U8 ?_;exact Tc.db (ih ⟨(i+1,u),by simp only;omega,by simp only;omega,f3,ins_out f4 c2 c3⟩ (by simp only;omega))
   · refine U2 ?_;refine Tc.dr [] [] mixed rfl ?_;refine .nn 0 ?_;refine .nn 1 ?_;refine .nn 2 ?_;refine .nn 3 ?_;refine .nw 4 ?_;refine .nw 5 ?_;refine .nw 6 ?_;refine .nw 7 ?_;refine .nw 8 ?_;refine .nw 9 ?_;refine .nw 10 ?_;refine .nw 11 ?_;refine .nw 12 ?_;refine .nw 13 ?_;refine .nn 14 ?_;refine .dn ?_;refine U8 ?_;exact Tc.db (ih ⟨(i+1,u),by simp only;omega,by simp only;omega,f3,fun p q h1 h2 h3=> f4 p q h1 h2 (by omega) (by omega)⟩ (by simp only;omega))
 · refine U9 ?_;refine .ov hK func223 results223 [] ?_;exact fun H' hs=> SortIQ.of hs (i:=0) rfl ⟨rfl,g3,fun p q h1 h2 h3=> g4 p q h1 h2 (by omega)⟩
end
end Go.Proofs.YtdnfdeplcjaonaaGreatDoor
namespace Go.RL
open Go.Conc
section
variable {P:Program}{E:Env P}{M:Md P}{n:Nat}{H₀:View}{R:Rg}{L:Bl}{o:Oper}{K:Rg→Bl→Prop}
theorem Or.clear(i:Nat){cl:Go.Call}{x:Operand}{t e e':TypeId}{q cap blk off:Nat}{z:Value}{c c':List Value}{r re:TyRow}(hop:o.op=.call cl)(hcl:cl.callee=.builtin .clear)(hat:cl.argTypes=#[t])(har:cl.args=#[x])
   (hx:evR R x=some (.slice (some ⟨blk,off,none⟩) q cap)) (ht:E.ty t=some r) (hds:r.ds=.slice e) (hre:E.ty e=some re) (hz:re.zero.cells.toList= [z]) (hz1:single z=true)
   (hi:L[i]? =some (blk,true,.cells ⟨c⟩ e' (0,0))) (hq:q≠0) (hl:off+q≤c.length) (hd:o.dst=none) (hc:stL c off (List.replicate q z)=c')
   (hk:K R (L.set i (blk,true,.cells ⟨c'⟩ e' (0,0)))):Or M n H₀ R L o K:=fun H tmps hst hr=> by
 unfold OpRun;unfold execOp;rw[hop];simp only[resolve,hcl,hat,har];have hm':Array.map (evT tmps) #[x]=#[.slice (some ⟨blk,off,none⟩) q cap]:=by simp[hr.ev hx]
 rw[hm'];obtain⟨q',rfl⟩:∃q',q=q'+1:=⟨q-1,by omega⟩
 refine vwp_bind (Builtin.clear_ #[t] o.type #[.slice (some ⟨blk,off,none⟩) (q'+1) cap]) _ ?_;show vwp P ((underlying t).bind fun _=> _) H _;refine vwp_bind (underlying t) _ (vwp_underlying (ds_slice ((E.ok _ _ ht).ds.trans hds)) ?_);show vwp P ((zeroValue e).bind fun z=> (storeCells ⟨blk,off,none⟩ (Builtin.zeroCells z.cells (q'+1)).toList).bind fun _=> Sem.pure (Value.tuple #[])) H _;refine vwp_bind (zeroValue e) _ (vwp_zeroValue (E.ok _ _ hre).zero ?_);have hzc:(Builtin.zeroCells re.zero.cells (q'+1)).toList=List.replicate (q'+1) z:=by
   have hsz:re.zero.cells.size=1:=by
     have:=congrArg List.length hz;simpa using this
   rw[zeroCells_eq,hz,zeroRow_one,hsz,Nat.mul_one]
 rw[hzc];refine vwp_bind (storeCells _ _) _ ?_;refine vwp_storeCells blk _ (List.replicate (q'+1) z) 0 c (hst.get hi) (by simp only[List.length_replicate,Nat.add_zero];omega) (by rw[List.all_eq_true];intro y hy;rw[List.eq_of_mem_replicate hy];exact hz1) fun H' hH'=> ?_;rw[if_neg (by simp)] at hH';rw[hH'];refine⟨R,_,?_,hst.set hi _,?_⟩
 · rw[hd];exact hr
 · rw[show stL c (off+0) (List.replicate (q'+1) z)=c' from hc];exact hk
end
end Go.RL
namespace Go.Proofs.YtdnfdeplcjaonaaGreatDoor
open Go.RL Go.Proofs.Tryz
set_option maxRecDepth 10000
set_option maxHeartbeats 8000000
def ddTo(l:List Int):Nat→List Int
 | 0=> []
 | k+1=> if 1≤k∧at0 l k=at0 l (k-1) then ddTo l k else ddTo l k++[at0 l k]
theorem ddTo_le(l:List Int):∀k,(ddTo l k).length≤k
 | 0=> Nat.le_refl _
 | k+1=> by
   have:=ddTo_le l k;unfold ddTo;split
   · omega
   · rw[List.length_append,List.length_cons,List.length_nil];omega
theorem take_at0 {l:List Int}{k:Nat}(h:k<l.length):l.take (k+1)=l.take k++[at0 l k]:=by
 unfold at0;rw[List.take_succ_eq_append_getElem h,List.getElem?_eq_getElem h];rfl
theorem take_set_at {u:List Int}{w:Nat}{x:Int}(h:w<u.length):(u.set w x).take (w+1)=u.take w++[x]:=by
 rw[List.take_succ_eq_append_getElem (by rw[List.length_set];exact h),List.take_set_of_le (Nat.le_refl _),List.getElem_set_self]
theorem at0_set {u:List Int}{w p:Nat}{x:Int}(h:w≠p):at0 (u.set w x) p=at0 u p:=by
 unfold at0;rw[List.getElem?_set_ne h]
theorem less_irr:∀s:List UInt8,Op.bytesLess s s=false
 | []=> rfl
 | a::t=> by
   show(decide (a<a)||(a==a&&Op.bytesLess t t))=false;rw[less_irr t];have:¬a<a:=UInt8.lt_irrefl a;simp[this]
theorem Enc.inj {dec:Int→List UInt8}{l:List Int}(h:Enc dec l){x y:Int}(hx:x∈l)(hy:y∈l)(e:dec x=dec y):x=y:=by
 have h1:=h x hx y hy;have h2:=h y hy x hx;rw[e,less_irr] at h1;rw[e,less_irr] at h2;have h3:=of_decide_eq_false h1.symm;have h4:=of_decide_eq_false h2.symm;omega
theorem cellsS_at {dec:Int→List UInt8}{m:List Int}{j:List Value}{k:Int}{o p:Nat}(hk:o+k.toNat*1=p)(hp:p<m.length):ldL false 1 ((strsL dec m)++j) (o+k.toNat*1)=some (strV (dec (at0 m p))):=by
 rw[hk];have:=cellsS_ld (dec:=dec) (m:=m) (j:=j) (k:=(p:Nat)) (p:=p) rfl hp;rw[Int.toNat_natCast,Nat.zero_add,Nat.mul_one] at this;exact this
def CompSQ(dec:Int→List UInt8)(H:View)(sb:Nat)(l:List Int)(jj:List Value)(n cap:Nat)(v:Value)(H':View):Prop:=
 (∀b x,b≠sb→H b=some x→H' b=some x)∧∃rest,v=.slice (some ⟨sb,0,none⟩) (ddTo l n).length cap∧(ddTo l n).length+rest.length=n+jj.length∧H' sb=some (true,.cells ⟨(strsL dec (ddTo l n))++rest⟩ 9 (0,0))
section
variable(M:Md prog)(H:View)
theorem CompactS_c(dec:Int→List UInt8)(sb:Nat)(l:List Int)(jj:List Value)(n cap:Nat)(hn:n=l.length)(hE:Enc dec l)(h1000:n≤100000000)(hcap:n≤cap)(hS:H sb=some (true,.cells ⟨(strsL dec l)++jj⟩ 9 (0,0))):
   CallT M 92 #[.slice (some ⟨sb,0,none⟩) n cap] H (CompSQ dec H sb l jj n cap):=by
 by_cases c0:n<2
 · have e:ddTo l n=l:=by
     rcases(by omega:n=0∨n=1) with h|h
     · have:l= []:=List.eq_nil_of_length_eq_zero (by omega);rw[h,this];rfl
     · rw[h]
       match l,hn.symm.trans h with
       | [x],_=> rfl
   refine CallT.enter (vs:= [.slice (some ⟨sb,0,none⟩) n cap]) func92 rfl ntmps92 (Nat.le_of_ble_eq_true rfl) (SymSt.pull hS) fun St c cs hK=> ?_;refine U17 ?_;refine .rt hK func92 results92 [_] ?_;refine fun H' hs=> ⟨fun b x hb hx=> hs.base b x (by rw[without_other hb];exact hx),jj,?_,?_,?_⟩
   · rw[e,←hn];rfl
   · rw[e,←hn]
   · rw[e];exact hs.get (i:=0) rfl
 · refine CallT.enter (vs:= [.slice (some ⟨sb,0,none⟩) n cap]) func92 rfl ntmps92 (Nat.le_of_ble_eq_true rfl) (SymSt.pull hS) fun St c cs hK=> ?_;refine U19 ?_;refine Tc.db (Tc.loopInv (σ:= { i:Nat//1≤i∧i≤n∧ddTo l i=l.take i }) (fun i=> ([(0,.slice (some ⟨sb,0,none⟩) n cap),(3,.int .i64 (i.1:Nat))],[(sb,true,.cells ⟨(strsL dec l)++jj⟩ 9 (0,0))])) (fun i=> n-i.1) ?_ ⟨1,Nat.le_refl _,by omega,?_⟩)
   · rintro ⟨i,g1,g2,g3⟩ ih;show Tc M St _ _ _ _ [(0,.slice (some ⟨sb,0,none⟩) n cap),(3,.int .i64 (i:Nat))] [(sb,true,.cells ⟨(strsL dec l)++jj⟩ 9 (0,0))] _ _;by_cases c1:i=n
     · have e:ddTo l n=l:=by rw[←c1,g3,c1,hn,List.take_length]
       subst c1;refine U15 ?_;refine .rt hK func92 results92 [_] ?_;refine fun H' hs=> ⟨fun b x hb hx=> hs.base b x (by rw[without_other hb];exact hx),jj,?_,?_,?_⟩
       · rw[e,←hn];rfl
       · rw[e,←hn]
       · rw[e];exact hs.get (i:=0) rfl
     · have c2 :i<n:=by omega
       have e1:((i:Nat):Int)-1=((i-1:Nat):Int):=by omega
       have k1:=cellsS_at (dec:=dec) (m:=l) (j:=jj) (o:=0) (k:=(i:Nat)) (p:=i) (by omega) (by omega);have k2:=cellsS_at (dec:=dec) (m:=l) (j:=jj) (o:=0) (k:=(i:Nat)-1) (p:=i-1) (by omega) (by omega);by_cases c3:at0 l i=at0 l (i-1)
       · have c4:RL.strB .eql (dec (at0 l i)) (dec (at0 l (i-1)))=some (.bool true):=by rw[c3];simp[RL.strB]
         have hdi:ddTo l (i+1)=l.take i:=by rw[ddTo,if_pos ⟨g1,c3⟩,g3]
         have hlt:(l.take i).length=i:=by rw[List.length_take];omega
         refine U13 ?_;refine Tc.dr [] [] mixed rfl ?_;refine .nn 0 ?_;refine .nn 1 ?_;refine .nn 2 ?_;refine .nn 3 ?_;refine .nn 4 ?_;refine .nn 5 ?_;refine .nn 6 ?_;refine .nn 7 ?_;refine .nn 8 ?_;refine .nn 9 ?_;refine .dn ?_;refine U5 ?_;refine .x (OpV.slice (E:=en) (off':=0+((i:Nat):Int).toNat*1) rfl rfl rfl rfl rfl rfl rfl rfl (by omega) (by omega) (by omega) (by rw[if_neg (by omega)] <;> rfl)) ?_;refine U8 ?_;refine Tc.db (Tc.loopInv (σ:= { s:Nat×Nat×List Int//1≤s.2.1∧s.2.1≤n-i∧s.2.2.length=n∧s.1+1≤i+s.2.1∧s.1=(ddTo l (i+s.2.1)).length∧s.2.2.take s.1=ddTo l (i+s.2.1)∧∀p,i+s.2.1≤p+1→at0 s.2.2 p=at0 l p })
           (fun s=> ([(0,.slice (some ⟨sb,0,none⟩) n cap),(3,.int .i64 (s.1.1:Nat)),(4,.slice (some ⟨sb,0+((i:Nat):Int).toNat*1,none⟩) (((n:Nat):Int).toNat-((i:Nat):Int).toNat) (cap-((i:Nat):Int).toNat)),(5,.int .i64 (s.1.2.1:Nat))],[(sb,true,.cells ⟨(strsL dec s.1.2.2)++jj⟩ 9 (0,0))])) (fun s=> n-s.1.2.1) ?_
           ⟨(i,1,l),by simp only;omega,by simp only;omega,hn.symm,by simp only;omega,by simp only;rw[hdi,hlt],by simp only;rw[hdi],fun p _=> rfl⟩)
         rintro⟨⟨v2,k,u⟩,h1,h2,h3,h4,h5,h6,h7⟩ ih2;simp only at h1 h2 h3 h4 h5 h6 h7;show Tc M St _ _ _ _ [(0,.slice (some ⟨sb,0,none⟩) n cap),(3,.int .i64 (v2:Nat)),(4,.slice (some ⟨sb,0+((i:Nat):Int).toNat*1,none⟩) (((n:Nat):Int).toNat-((i:Nat):Int).toNat) (cap-((i:Nat):Int).toNat)),(5,.int .i64 (k:Nat))] [(sb,true,.cells ⟨(strsL dec u)++jj⟩ 9 (0,0))] _ _;have hin:((n:Nat):Int).toNat-((i:Nat):Int).toNat=n-i:=by omega
         rw[hin];by_cases d1:k=n-i
         · have e5:i+k=n:=by omega
           rw[e5] at h5 h6 h4;have hul:u.length=n:=h3;have hq0:((n:Nat):Int).toNat-((v2:Nat):Int).toNat=n-v2:=by omega
           refine U14 ?_;refine .x (OpV.slice (E:=en) (off':=0+((v2:Nat):Int).toNat*1) rfl rfl rfl rfl rfl rfl rfl rfl (by omega) (by omega) (by omega) (by rw[if_neg (by omega)] <;> rfl)) ?_;refine .e (Or.clear (E:=en) (c':=(strsL dec (ddTo l n))++(List.replicate (n-v2) (strV [])++jj)) 0 rfl rfl rfl rfl rfl rfl rfl rfl rfl rfl rfl (by omega) ?_ rfl ?_ ?_)
           · rw[List.length_append,strsL_len];omega
           · show stL ((strsL dec u)++jj) (0+((v2:Nat):Int).toNat*1) (List.replicate (((n:Nat):Int).toNat-((v2:Nat):Int).toNat) (strV []))=_;rw[hq0,Nat.zero_add,Int.toNat_natCast,Nat.mul_one];have e6:u=ddTo l n++u.drop v2:=by rw[←h6,List.take_append_drop]
             have e7:(strsL dec u)=(strsL dec (ddTo l n))++(strsL dec (u.drop v2)):=by
               have h:=congrArg (fun x=> (strsL dec x)) e6;refine h.trans ?_;show(strsL dec (ddTo l n++u.drop v2))=_;unfold strsL;rw[List.map_append]
             have e8:(strsL dec (ddTo l n)).length=v2:=by rw[strsL_len,←h5]
             have e9:(strsL dec (u.drop v2)).length=n-v2:=by rw[strsL_len,List.length_drop,hul]
             rw[e7,List.append_assoc];unfold stL;rw[List.take_left' e8,List.length_replicate,←List.drop_drop,List.drop_left' e8,List.drop_left' e9];simp only[List.append_assoc]
           · refine U5 ?_;refine .x (OpV.sliceTo (E:=en) (k:=v2) rfl rfl rfl rfl rfl rfl (by omega) (by omega)) ?_;refine U2 ?_;refine .rt hK func92 results92 [_] ?_;refine fun H' hs=> ⟨fun b x hb hx=> hs.base b x (by rw[without_other hb];exact hx),List.replicate (n-v2) (strV [])++jj,?_,?_,?_⟩
             · rw[←h5];rfl
             · rw[List.length_append,List.length_replicate];omega
             · exact hs.get (i:=0) rfl
         · have d2:i+k<n:=by omega
           have e2:((k:Nat):Int)-1=((k-1:Nat):Int):=by omega
           have k3:=cellsS_at (dec:=dec) (m:=u) (j:=jj) (o:=0+((i:Nat):Int).toNat*1) (k:=(k:Nat)) (p:=i+k) (by omega) (by omega);have k4:=cellsS_at (dec:=dec) (m:=u) (j:=jj) (o:=0+((i:Nat):Int).toNat*1) (k:=(k:Nat)-1) (p:=i+k-1) (by omega) (by omega);have a1:=h7 (i+k) (by omega);have a2:=h7 (i+k-1) (by omega);by_cases d3:at0 l (i+k)=at0 l (i+k-1)
           · have c5:RL.strB .neq (dec (at0 u (i+k))) (dec (at0 u (i+k-1)))=some (.bool false):=by rw[a1,a2,d3];simp[RL.strB]
             have hdk:ddTo l (i+(k+1))=ddTo l (i+k):=by show ddTo l (i+k+1)=_;rw[ddTo,if_pos ⟨by omega,d3⟩]
             refine U13 ?_;refine Tc.dr [] [] mixed rfl ?_;refine .nn 0 ?_;refine .nn 1 ?_;refine .nn 2 ?_;refine .nn 3 ?_;refine .nn 4 ?_;refine .nn 5 ?_;refine .nn 6 ?_;refine .nn 7 ?_;refine .nn 8 ?_;refine .nn 9 ?_;refine .dn ?_;refine U8 ?_;exact Tc.db (ih2 ⟨(v2,k+1,u),by simp only;omega,by simp only;omega,h3,by simp only;omega,by simp only;rw[hdk];exact h5,by simp only;rw[hdk];exact h6,fun p hp=> h7 p (by simp only at hp;omega)⟩ (by simp only;omega))
           · have c5:RL.strB .neq (dec (at0 u (i+k))) (dec (at0 u (i+k-1)))=some (.bool true):=by rw[a1,a2];have:¬dec (at0 l (i+k))=dec (at0 l (i+k-1)):=fun h=> d3 (hE.inj (at0_mem (by omega)) (at0_mem (by omega)) h);simp[RL.strB,this]
             have hdk:ddTo l (i+(k+1))=ddTo l (i+k)++[at0 l (i+k)]:=by show ddTo l (i+k+1)=_;rw[ddTo,if_neg (fun h=> d3 h.2)]
             have s1:=cellsS_st (dec:=dec) (m:=u) (j:=jj) (k:=(v2:Nat)) (x:=at0 u (i+k)) (p:=v2) rfl (by omega);have l1:=cellsS_le (dec:=dec) (m:=u) (j:=jj) (k:=(v2:Nat)) (p:=v2) rfl (by omega);refine U13 ?_;refine Tc.dr [] [] mixed rfl ?_;refine .nn 0 ?_;refine .nn 1 ?_;refine .nn 2 ?_;refine .nn 3 ?_;refine .nn 4 ?_;refine .nn 5 ?_;refine .nn 6 ?_;refine .nn 7 ?_;refine .nn 8 ?_;refine .nn 9 ?_;refine .dn ?_;refine U23 ?_;exact Tc.db (ih2 ⟨(v2+1,k+1,u.set v2 (at0 u (i+k))),by simp only;omega,by simp only;omega,by simp only;rw[List.length_set];exact h3,by simp only;omega,by simp only;rw[hdk,List.length_append,←h5];rfl,by simp only;rw[hdk,take_set_at (by omega),h6,a1],fun p hp=> by simp only at hp ⊢;rw[at0_set (by omega)];exact h7 p (by omega)⟩ (by simp only;omega))
       · have c4:RL.strB .eql (dec (at0 l i)) (dec (at0 l (i-1)))=some (.bool false):=by have:¬dec (at0 l i)=dec (at0 l (i-1)):=fun h=> c3 (hE.inj (at0_mem (by omega)) (at0_mem (by omega)) h);simp[RL.strB,this]
         refine U13 ?_;refine Tc.dr [] [] mixed rfl ?_;refine .nn 0 ?_;refine .nn 1 ?_;refine .nn 2 ?_;refine .nn 3 ?_;refine .nn 4 ?_;refine .nn 5 ?_;refine .nn 6 ?_;refine .nn 7 ?_;refine .nn 8 ?_;refine .nn 9 ?_;refine .dn ?_;refine U8 ?_;exact Tc.db (ih ⟨i+1,by omega,by omega,by rw[ddTo,if_neg (fun h=> c3 h.2),g3,take_at0 (by omega)]⟩ (by simp only;omega))
   · rw[take_at0 (l:=l) (k:=0) (by omega)];rfl
end
theorem cellsI_at {m:List Int}{j:List Value}{k:Int}{o p:Nat}(hk:o+k.toNat*1=p)(hp:p<m.length):ldL false 1 ((intsL m)++j) (o+k.toNat*1)=some (.int .i64 (at0 m p)):=by
 rw[hk];have:=cellsI_ld (m:=m) (j:=j) (k:=(p:Nat)) (p:=p) rfl hp;rw[Int.toNat_natCast,Nat.zero_add,Nat.mul_one] at this;exact this
def CompIQ(H:View)(sb:Nat)(l:List Int)(jj:List Value)(n cap:Nat)(v:Value)(H':View):Prop:=
 (∀b x,b≠sb→H b=some x→H' b=some x)∧∃rest,v=.slice (some ⟨sb,0,none⟩) (ddTo l n).length cap∧(ddTo l n).length+rest.length=n+jj.length∧H' sb=some (true,.cells ⟨(intsL (ddTo l n))++rest⟩ 3 (0,0))
section
variable(M:Md prog)(H:View)
theorem CompactI_c(sb:Nat)(l:List Int)(jj:List Value)(n cap:Nat)(hn:n=l.length)(h1000:n≤1000000)(hcap:n≤cap)(hS:H sb=some (true,.cells ⟨(intsL l)++jj⟩ 3 (0,0))):
   CallT M 132 #[.slice (some ⟨sb,0,none⟩) n cap] H (CompIQ H sb l jj n cap):=by
 by_cases c0:n<2
 · have e:ddTo l n=l:=by
     rcases(by omega:n=0∨n=1) with h|h
     · have:l= []:=List.eq_nil_of_length_eq_zero (by omega);rw[h,this];rfl
     · rw[h]
       match l,hn.symm.trans h with
       | [x],_=> rfl
   refine CallT.enter (vs:= [.slice (some ⟨sb,0,none⟩) n cap]) func132 rfl ntmps132 (Nat.le_of_ble_eq_true rfl) (SymSt.pull hS) fun St c cs hK=> ?_;refine U17 ?_;refine .rt hK func132 results132 [_] ?_;refine fun H' hs=> ⟨fun b x hb hx=> hs.base b x (by rw[without_other hb];exact hx),jj,?_,?_,?_⟩
   · rw[e,←hn];rfl
   · rw[e,←hn]
   · rw[e];exact hs.get (i:=0) rfl
 · refine CallT.enter (vs:= [.slice (some ⟨sb,0,none⟩) n cap]) func132 rfl ntmps132 (Nat.le_of_ble_eq_true rfl) (SymSt.pull hS) fun St c cs hK=> ?_;refine U19 ?_;refine Tc.db (Tc.loopInv (σ:= { i:Nat//1≤i∧i≤n∧ddTo l i=l.take i }) (fun i=> ([(0,.slice (some ⟨sb,0,none⟩) n cap),(3,.int .i64 (i.1:Nat))],[(sb,true,.cells ⟨(intsL l)++jj⟩ 3 (0,0))])) (fun i=> n-i.1) ?_ ⟨1,Nat.le_refl _,by omega,?_⟩)
   · rintro ⟨i,g1,g2,g3⟩ ih;show Tc M St _ _ _ _ [(0,.slice (some ⟨sb,0,none⟩) n cap),(3,.int .i64 (i:Nat))] [(sb,true,.cells ⟨(intsL l)++jj⟩ 3 (0,0))] _ _;by_cases c1:i=n
     · have e:ddTo l n=l:=by rw[←c1,g3,c1,hn,List.take_length]
       subst c1;refine U15 ?_;refine .rt hK func132 results132 [_] ?_;refine fun H' hs=> ⟨fun b x hb hx=> hs.base b x (by rw[without_other hb];exact hx),jj,?_,?_,?_⟩
       · rw[e,←hn];rfl
       · rw[e,←hn]
       · rw[e];exact hs.get (i:=0) rfl
     · have c2 :i<n:=by omega
       have e1:((i:Nat):Int)-1=((i-1:Nat):Int):=by omega
       have k1:=cellsI_at (m:=l) (j:=jj) (o:=0) (k:=(i:Nat)) (p:=i) (by omega) (by omega);have k2:=cellsI_at (m:=l) (j:=jj) (o:=0) (k:=(i:Nat)-1) (p:=i-1) (by omega) (by omega);by_cases c3:at0 l i=at0 l (i-1)
       · skip
         have hdi:ddTo l (i+1)=l.take i:=by rw[ddTo,if_pos ⟨g1,c3⟩,g3]
         have hlt:(l.take i).length=i:=by rw[List.length_take];omega
         refine U13 ?_;refine Tc.dr [] [] mixed rfl ?_;refine .nn 0 ?_;refine .nn 1 ?_;refine .nn 2 ?_;refine .nn 3 ?_;refine .nn 4 ?_;refine .nn 5 ?_;refine .nn 6 ?_;refine .nn 7 ?_;refine .nn 8 ?_;refine .nn 9 ?_;refine .dn ?_;refine U5 ?_;refine .x (OpV.slice (E:=en) (off':=0+((i:Nat):Int).toNat*1) rfl rfl rfl rfl rfl rfl rfl rfl (by omega) (by omega) (by omega) (by rw[if_neg (by omega)] <;> rfl)) ?_;refine U8 ?_;refine Tc.db (Tc.loopInv (σ:= { s:Nat×Nat×List Int//1≤s.2.1∧s.2.1≤n-i∧s.2.2.length=n∧s.1+1≤i+s.2.1∧s.1=(ddTo l (i+s.2.1)).length∧s.2.2.take s.1=ddTo l (i+s.2.1)∧∀p,i+s.2.1≤p+1→at0 s.2.2 p=at0 l p })
           (fun s=> ([(0,.slice (some ⟨sb,0,none⟩) n cap),(3,.int .i64 (s.1.1:Nat)),(4,.slice (some ⟨sb,0+((i:Nat):Int).toNat*1,none⟩) (((n:Nat):Int).toNat-((i:Nat):Int).toNat) (cap-((i:Nat):Int).toNat)),(5,.int .i64 (s.1.2.1:Nat))],[(sb,true,.cells ⟨(intsL s.1.2.2)++jj⟩ 3 (0,0))])) (fun s=> n-s.1.2.1) ?_
           ⟨(i,1,l),by simp only;omega,by simp only;omega,hn.symm,by simp only;omega,by simp only;rw[hdi,hlt],by simp only;rw[hdi],fun p _=> rfl⟩)
         rintro⟨⟨v2,k,u⟩,h1,h2,h3,h4,h5,h6,h7⟩ ih2;simp only at h1 h2 h3 h4 h5 h6 h7;show Tc M St _ _ _ _ [(0,.slice (some ⟨sb,0,none⟩) n cap),(3,.int .i64 (v2:Nat)),(4,.slice (some ⟨sb,0+((i:Nat):Int).toNat*1,none⟩) (((n:Nat):Int).toNat-((i:Nat):Int).toNat) (cap-((i:Nat):Int).toNat)),(5,.int .i64 (k:Nat))] [(sb,true,.cells ⟨(intsL u)++jj⟩ 3 (0,0))] _ _;have hin:((n:Nat):Int).toNat-((i:Nat):Int).toNat=n-i:=by omega
         rw[hin];by_cases d1:k=n-i
         · have e5:i+k=n:=by omega
           rw[e5] at h5 h6 h4;have hul:u.length=n:=h3;have hq0:((n:Nat):Int).toNat-((v2:Nat):Int).toNat=n-v2:=by omega
           refine U14 ?_;refine .x (OpV.slice (E:=en) (off':=0+((v2:Nat):Int).toNat*1) rfl rfl rfl rfl rfl rfl rfl rfl (by omega) (by omega) (by omega) (by rw[if_neg (by omega)] <;> rfl)) ?_;refine .e (Or.clear (E:=en) (c':=(intsL (ddTo l n))++(List.replicate (n-v2) (.int .i64 0)++jj)) 0 rfl rfl rfl rfl rfl rfl rfl rfl rfl rfl rfl (by omega) ?_ rfl ?_ ?_)
           · rw[List.length_append,intsL_len];omega
           · show stL ((intsL u)++jj) (0+((v2:Nat):Int).toNat*1) (List.replicate (((n:Nat):Int).toNat-((v2:Nat):Int).toNat) (.int .i64 0))=_;rw[hq0,Nat.zero_add,Int.toNat_natCast,Nat.mul_one];have e6:u=ddTo l n++u.drop v2:=by rw[←h6,List.take_append_drop]
             have e7:(intsL u)=(intsL (ddTo l n))++(intsL (u.drop v2)):=by
               have h:=congrArg (fun x=> (intsL x)) e6;refine h.trans ?_;show(intsL (ddTo l n++u.drop v2))=_;unfold intsL;rw[List.map_append]
             have e8:(intsL (ddTo l n)).length=v2:=by rw[intsL_len,←h5]
             have e9:(intsL (u.drop v2)).length=n-v2:=by rw[intsL_len,List.length_drop,hul]
             rw[e7,List.append_assoc];unfold stL;rw[List.take_left' e8,List.length_replicate,←List.drop_drop,List.drop_left' e8,List.drop_left' e9];simp only[List.append_assoc]
           · refine U5 ?_;refine .x (OpV.sliceTo (E:=en) (k:=v2) rfl rfl rfl rfl rfl rfl (by omega) (by omega)) ?_;refine U2 ?_;refine .rt hK func132 results132 [_] ?_;refine fun H' hs=> ⟨fun b x hb hx=> hs.base b x (by rw[without_other hb];exact hx),List.replicate (n-v2) (.int .i64 0)++jj,?_,?_,?_⟩
             · rw[←h5];rfl
             · rw[List.length_append,List.length_replicate];omega
             · exact hs.get (i:=0) rfl
         · have d2:i+k<n:=by omega
           have e2:((k:Nat):Int)-1=((k-1:Nat):Int):=by omega
           have k3:=cellsI_at (m:=u) (j:=jj) (o:=0+((i:Nat):Int).toNat*1) (k:=(k:Nat)) (p:=i+k) (by omega) (by omega);have k4:=cellsI_at (m:=u) (j:=jj) (o:=0+((i:Nat):Int).toNat*1) (k:=(k:Nat)-1) (p:=i+k-1) (by omega) (by omega);have a1:=h7 (i+k) (by omega);have a2:=h7 (i+k-1) (by omega);by_cases d3:at0 l (i+k)=at0 l (i+k-1)
           · have a3:at0 u (i+k)=at0 u (i+k-1):=by rw[a1,a2,d3]
             have hdk:ddTo l (i+(k+1))=ddTo l (i+k):=by show ddTo l (i+k+1)=_;rw[ddTo,if_pos ⟨by omega,d3⟩]
             refine U13 ?_;refine Tc.dr [] [] mixed rfl ?_;refine .nn 0 ?_;refine .nn 1 ?_;refine .nn 2 ?_;refine .nn 3 ?_;refine .nn 4 ?_;refine .nn 5 ?_;refine .nn 6 ?_;refine .nn 7 ?_;refine .nn 8 ?_;refine .nn 9 ?_;refine .dn ?_;refine U8 ?_;exact Tc.db (ih2 ⟨(v2,k+1,u),by simp only;omega,by simp only;omega,h3,by simp only;omega,by simp only;rw[hdk];exact h5,by simp only;rw[hdk];exact h6,fun p hp=> h7 p (by simp only at hp;omega)⟩ (by simp only;omega))
           · have a3:¬at0 u (i+k)=at0 u (i+k-1):=by rw[a1,a2];exact d3
             have hdk:ddTo l (i+(k+1))=ddTo l (i+k)++[at0 l (i+k)]:=by show ddTo l (i+k+1)=_;rw[ddTo,if_neg (fun h=> d3 h.2)]
             have s1:=cellsI_st (m:=u) (j:=jj) (k:=(v2:Nat)) (x:=at0 u (i+k)) (p:=v2) rfl (by omega);have l1:=cellsI_le (m:=u) (j:=jj) (k:=(v2:Nat)) (p:=v2) rfl (by omega);refine U13 ?_;refine Tc.dr [] [] mixed rfl ?_;refine .nn 0 ?_;refine .nn 1 ?_;refine .nn 2 ?_;refine .nn 3 ?_;refine .nn 4 ?_;refine .nn 5 ?_;refine .nn 6 ?_;refine .nn 7 ?_;refine .nn 8 ?_;refine .nn 9 ?_;refine .dn ?_;refine U23 ?_;exact Tc.db (ih2 ⟨(v2+1,k+1,u.set v2 (at0 u (i+k))),by simp only;omega,by simp only;omega,by simp only;rw[List.length_set];exact h3,by simp only;omega,by simp only;rw[hdk,List.length_append,←h5];rfl,by simp only;rw[hdk,take_set_at (by omega),h6,a1],fun p hp=> by simp only at hp ⊢;rw[at0_set (by omega)];exact h7 p (by omega)⟩ (by simp only;omega))
       · skip
         refine U13 ?_;refine Tc.dr [] [] mixed rfl ?_;refine .nn 0 ?_;refine .nn 1 ?_;refine .nn 2 ?_;refine .nn 3 ?_;refine .nn 4 ?_;refine .nn 5 ?_;refine .nn 6 ?_;refine .nn 7 ?_;refine .nn 8 ?_;refine .nn 9 ?_;refine .dn ?_;refine U8 ?_;exact Tc.db (ih ⟨i+1,by omega,by omega,by rw[ddTo,if_neg (fun h=> c3 h.2),g3,take_at0 (by omega)]⟩ (by simp only;omega))
   · rw[take_at0 (l:=l) (k:=0) (by omega)];rfl
end
def bl(x:Nat):Nat:=if x=0 then 0 else Nat.log2 x+1
theorem bl_u8:∀x:Nat,x<64→(UInt8.ofNat (bl x)).toNat=bl x∧bl x≤6∧x<2 ^ bl x∧2 ^ bl x≤2*x+1:=by decide +kernel
theorem u8_wrap:∀x:Nat,x<64→IntKind.u8.wrap (x:Int)=(x:Int):=by decide +kernel
section
variable(M:Md prog)(H:View)
theorem Len64_c(x:Nat)(hx:x<64):CallT M 208 #[.int .u64 (x:Nat)] H (fun v H'=> H.le H'∧v=.int .i64 (bl x:Nat)):=by
 obtain⟨b1,b2,_,_⟩:=bl_u8 x hx;have hw:=u8_wrap x hx;have hw2:IntKind.i64.wrap (((UInt8.ofNat (bl x)).toNat:Nat):Int)=((bl x:Nat):Int):=by rw[b1];exact wrap64 (by omega) (by omega)
 have hadd:intBin .add .i64 0 ((bl x:Nat):Int)=some (.int .i64 ((bl x:Nat):Int)):=by rw[add_in (by omega) (by omega),Int.zero_add]
 refine .en func208 ntmps208 fun St c cs hK=> ?_;refine U33 ?_;refine .x (OpV.indexStr (c:=UInt8.ofNat (bl x)) rfl rfl rfl (ds_str ((en.ok _ _ (show en.ty 9=some _ from rfl)).ds.trans rfl)) (by omega) (by
   rw[Int.toNat_natCast];exact(fun(s:ByteArray) (h:∀y:Nat,y<64→s[y]? =some (UInt8.ofNat (bl y)))=> h x hx) _ (by decide +kernel))) ?_
 refine .x (OpV.convE (E:=en) rfl rfl rfl rfl rfl rfl hw2) ?_;refine .i ?_ (z:=hadd);refine U2 ?_;refine .rt hK func208 results208 [_] ?_;exact okB
theorem Len_c(x:Nat)(hx:x<64):CallT M 158 #[.int .u64 (x:Nat)] H (fun v H'=> H.le H'∧v=.int .i64 (bl x:Nat)):=by
 refine .en func158 ntmps158 fun St c cs hK=> ?_;refine U10 ?_;refine .c rfl rfl rfl rfl (fun H hs=> .h (Len64_c M H x hx)) ?_;refine U2 ?_;refine .rt hK func158 results158 [_] ?_;exact okB
end
theorem u64_12:∀x:Nat,x<64→IntKind.u64.wrap (x:Int)=(x:Int):=by decide +kernel
section
variable(M:Md prog)(H:View)
theorem pdqS_c(dec:Int→List UInt8)(sb:Nat)(l:List Int)(jj:List Value)(n cap:Nat)(lim:Int)(hn:n=l.length)(hE:Enc dec l)(h12:n≤12)(hS:H sb=some (true,.cells ⟨(strsL dec l)++jj⟩ 9 (0,0))):
   CallT M 157 #[.slice (some ⟨sb,0,none⟩) n cap,.int .i64 0,.int .i64 (n:Nat),.int .i64 lim] H (SortSQ dec H sb jj (fun v m=> v=.tuple ⟨[]⟩∧Turned 0 n l m∧Srt 0 n m)):=by
 refine CallT.enter (vs:= [.slice (some ⟨sb,0,none⟩) n cap,.int .i64 0,.int .i64 (n:Nat),.int .i64 lim]) func157 rfl ntmps157 (Nat.le_of_ble_eq_true rfl) (SymSt.pull hS) fun St c cs hK=> ?_;refine U7 ?_;refine .done (.block (.loop (.block (.sr ?_))));refine U17 ?_;refine .e (Or.sortsS (dec:=dec) (l:=l) 0 (fun v m=> v=.tuple ⟨[]⟩∧Turned 0 n l m∧Srt 0 n m) rfl rfl rfl rfl rfl (by decide) rfl (fun H hs=> .h (insertionS_c M H dec sb l jj n cap 0 n hn hE (by omega) (by omega) (by omega) (hs.get (i:=0) rfl))) (fun v m hm=> ?_));refine U ?_;obtain⟨rfl,ht,hs0⟩:=hm;refine .rt hK func157 results157 [] ?_;exact fun H' hs=> SortSQ.of hs (i:=0) rfl ⟨rfl,ht,hs0⟩
theorem SortS_c(dec:Int→List UInt8)(sb:Nat)(l:List Int)(jj:List Value)(n cap:Nat)(hn:n=l.length)(hE:Enc dec l)(h12:n≤12)(hS:H sb=some (true,.cells ⟨(strsL dec l)++jj⟩ 9 (0,0))):
   CallT M 91 #[.slice (some ⟨sb,0,none⟩) n cap] H (SortSQ dec H sb jj (fun v m=> v=.tuple ⟨[]⟩∧Turned 0 n l m∧Srt 0 n m)):=by
 have hw:=u64_12 n (by omega);refine CallT.enter (vs:= [.slice (some ⟨sb,0,none⟩) n cap]) func91 rfl ntmps91 (Nat.le_of_ble_eq_true rfl) (SymSt.pull hS) fun St c cs hK=> ?_;refine U11 ?_;refine .c rfl rfl rfl rfl (fun H hs=> .h (Len_c M H n (by omega))) ?_;refine .e (Or.sortsS (dec:=dec) (l:=l) 0 (fun v m=> v=.tuple ⟨[]⟩∧Turned 0 n l m∧Srt 0 n m) rfl rfl rfl rfl rfl (by decide) rfl (fun H hs=> .h (pdqS_c M H dec sb l jj n cap (bl n:Nat) hn hE h12 (hs.get (i:=0) rfl))) (fun v m hm=> ?_));refine U ?_;obtain⟨rfl,ht,hs0⟩:=hm;refine .ov hK func91 results91 [] ?_;exact fun H' hs=> SortSQ.of hs (i:=0) rfl ⟨rfl,ht,hs0⟩
theorem insertionS_nil(c0:Nat):CallT M 198 #[.slice none 0 c0,.int .i64 0,.int .i64 ((0:Nat):Int)] H (fun v H'=> H.le H'∧v=.tuple ⟨[]⟩):=by
 refine .en func198 ntmps198 fun St c cs hK=> ?_;refine U5 ?_;refine .done (.block (.loop (.seq (.sr ?_))));refine U6 ?_;refine .ov hK func198 results198 [] ?_;exact okB
theorem pdqS_nil(c0:Nat)(lim:Int):CallT M 157 #[.slice none 0 c0,.int .i64 0,.int .i64 ((0:Nat):Int),.int .i64 lim] H (fun v H'=> H.le H'∧v=.tuple ⟨[]⟩):=by
 refine .en func157 ntmps157 fun St c cs hK=> ?_;refine U7 ?_;refine .done (.block (.loop (.block (.sr ?_))));refine U17 ?_;refine .c rfl rfl rfl rfl (fun H hs=> .h (insertionS_nil M H c0)) ?_;refine U ?_;refine .rt hK func157 results157 [] ?_;exact okB
theorem SortS_nil(c0:Nat):CallT M 91 #[.slice none 0 c0] H (fun v H'=> H.le H'∧v=.tuple ⟨[]⟩):=by
 have hw:=u64_12 0 (by omega);refine .en func91 ntmps91 fun St c cs hK=> ?_;refine U11 ?_;refine .c rfl rfl rfl rfl (fun H hs=> .h (Len_c M H 0 (by omega))) ?_;refine .c rfl rfl rfl rfl (fun H hs=> .h (pdqS_nil M H c0 (bl 0:Nat))) ?_;refine U ?_;refine .ov hK func91 results91 [] ?_;exact okB
theorem CompactS_nil(c0:Nat):CallT M 92 #[.slice none 0 c0] H (fun v H'=> H.le H'∧v=.slice none 0 c0):=by
 refine .en func92 ntmps92 fun St c cs hK=> ?_;refine U17 ?_;refine .rt hK func92 results92 [_] ?_;exact okB
end
def Gl.withS(g:Gl 9 1)(m:List Value)(h:m.length=g.n):Gl 9 1:=⟨g.blk,g.n,g.cap,m,g.junk,by rw[h,Nat.mul_one],g.hc,g.hj,g.h0⟩
theorem Or.sortSGl {dec:Int→List UInt8}{M:Md prog}{n:Nat}{H₀:View}{R:Rg}{L1:Bl}{o:Oper}{K:Rg→Bl→Prop}{cl:Go.Call}{x:Operand}{fv:Value}{d:Nat}(g:Gl 9 1)(u:List Int)(hg:g.l=(strsL dec u))(hE:Enc dec u)(h12:g.n≤12)
   (hop:o.op=.call cl) (hcl:cl.callee=.value x) (hx:evR R x=some fv) (has:evRs R cl.args.toList=some [g.val]) (hd:o.dst=some d) (hn:d<n)
   (hc:∀(H:View) (Q:Value→View→Prop),CallT M 91 #[g.val] H Q→FnT M fv [g.val] H Q)
   (hK:∀(g':Gl 9 1) (m:List Int),g'.val=g.val→g'.n=g.n→g'.blk=g.blk→g'.l=(strsL dec m)→Turned 0 g.n u m→Srt 0 g.n m→K ((d,.tuple ⟨[]⟩)::R) (L1++g'.bl)):Or M n H₀ R (L1++g.bl) o K:=by
 have hul:u.length=g.n:=by have:=g.hl;rw[hg,strsL_len] at this;omega
 cases hb:g.blk with
 | none=>
   have hcap:=g.h0 hb;have hgc:=g.hc;have h0:g.n=0:=by omega
   have hbl:g.bl= []:=by unfold Gl.bl;rw[hb]
   have hv:g.val=.slice none 0 g.cap:=by unfold Gl.val;rw[hb,h0];rfl
   refine Or.callNew (fun _:Unit=> .tuple ⟨[]⟩) (fun _=> []) (fun _=> True) hop hcl hx has hd hn (fun _=> by simp) (fun H hs=> hc H _ ?_) (fun _ _=> ?_)
   · rw[hv];exact CallT.mono (SortS_nil M H g.cap) (fun v H' ⟨h1,h2⟩=> ⟨h1,(),h2,trivial,by simp⟩)
   · rw[List.append_nil];exact hK g u rfl rfl rfl hg (Turned.refl _ _ _) (fun p q h1 h2 h3=> by omega)
 | some b=>
   have hbl:g.bl= [(b,true,.cells ⟨(strsL dec u)++g.junk⟩ 9 (0,0))]:=by unfold Gl.bl;rw[hb,hg]
   have hv:g.val=.slice (some ⟨b,0,none⟩) g.n g.cap:=by unfold Gl.val;rw[hb];rfl
   rw[hbl];refine Or.sortsS (dec:=dec) (l:=u) L1.length (fun v m=> v=.tuple ⟨[]⟩∧Turned 0 g.n u m∧Srt 0 g.n m) hop hcl hx has hd hn (by rw[List.getElem?_append_right (Nat.le_refl _),Nat.sub_self];rfl)
     (fun H hs=> hc H _ ?_) (fun v m ⟨h1,h2,h3⟩=> ?_)
   · rw[hv];exact SortS_c M H dec b u g.junk g.n g.cap hul.symm hE h12 (hs.get (i:=L1.length) (by rw[List.getElem?_append_right (Nat.le_refl _),Nat.sub_self];rfl))
   · subst h1;have hml:m.length=g.n:=by rw[h2.len];exact hul
     have:=hK (Gl.withS g (strsL dec m) (by rw[strsL_len];exact hml)) m rfl rfl rfl rfl h2 h3;have hbl':(Gl.withS g (strsL dec m) (by rw[strsL_len];exact hml)).bl= [(b,true,.cells ⟨(strsL dec m)++g.junk⟩ 9 (0,0))]:=by
       unfold Gl.bl Gl.withS;simp only[hb]
     rw[hbl'] at this;rw[List.set_append_right _ _ (Nat.le_refl _),Nat.sub_self];exact this
theorem Or.compSGl {dec:Int→List UInt8}{M:Md prog}{n:Nat}{H₀:View}{R:Rg}{L1:Bl}{o:Oper}{K:Rg→Bl→Prop}{cl:Go.Call}{x:Operand}{fv:Value}{d:Nat}(g:Gl 9 1)(u:List Int)(hg:g.l=(strsL dec u))(hE:Enc dec u)(h12:g.n≤100000000)
   (hop:o.op=.call cl) (hcl:cl.callee=.value x) (hx:evR R x=some fv) (has:evRs R cl.args.toList=some [g.val]) (hd:o.dst=some d) (hn:d<n)
   (hc:∀(H:View) (Q:Value→View→Prop),CallT M 92 #[g.val] H Q→FnT M fv [g.val] H Q)
   (hK:∀(g':Gl 9 1),g'.n=(ddTo u g.n).length→g'.l=(strsL dec (ddTo u g.n))→K ((d,g'.val)::R) (L1++g'.bl)):Or M n H₀ R (L1++g.bl) o K:=by
 have hul:u.length=g.n:=by have:=g.hl;rw[hg,strsL_len] at this;omega
 cases hb:g.blk with
 | none=>
   have hcap:=g.h0 hb;have hgc:=g.hc;have h0:g.n=0:=by omega
   have hbl:g.bl= []:=by unfold Gl.bl;rw[hb]
   have hv:g.val=.slice none 0 g.cap:=by unfold Gl.val;rw[hb,h0];rfl
   have hu0:u= []:=List.eq_nil_of_length_eq_zero (by omega);refine Or.callNew (fun _:Unit=> g.val) (fun _=> []) (fun _=> True) hop hcl hx has hd hn (fun _=> by simp) (fun H hs=> hc H _ ?_) (fun _ _=> ?_)
   · rw[hv];exact CallT.mono (CompactS_nil M H g.cap) (fun v H' ⟨h1,h2⟩=> ⟨h1,(),h2,trivial,by simp⟩)
   · rw[List.append_nil];refine hK g (by rw[h0];rfl) ?_;rw[hg,hu0,h0];rfl
 | some b=>
   have hbl:g.bl= [(b,true,.cells ⟨(strsL dec u)++g.junk⟩ 9 (0,0))]:=by unfold Gl.bl;rw[hb,hg]
   have hv:g.val=.slice (some ⟨b,0,none⟩) g.n g.cap:=by unfold Gl.val;rw[hb];rfl
   rw[hbl];have hi:(L1++[(b,true,Obj.cells ⟨(strsL dec u)++g.junk⟩ 9 (0,0))])[L1.length]? =some (b,true,Obj.cells ⟨(strsL dec u)++g.junk⟩ 9 (0,0)):=by rw[List.getElem?_append_right (Nat.le_refl _),Nat.sub_self];rfl
   refine .callV hop hcl hx has (Q:=fun H v H'=> CompSQ dec H b u g.junk g.n g.cap v H') (fun H hs=> hc H _ ?_) (fun H v H' hs hq=> ?_)
   · rw[hv];exact CompactS_c M H dec b u g.junk g.n g.cap hul.symm hE h12 g.hc (hs.get hi)
   · obtain⟨h1,rest,h2,h3,h4⟩:=hq;subst h2;have hle:=ddTo_le u g.n;have hgc:=g.hc;have hgj:=g.hj;refine⟨L1++[(b,true,.cells ⟨(strsL dec (ddTo u g.n))++rest⟩ 9 (0,0))],_,?_,by rw[hd];exact⟨hn,rfl⟩,?_⟩
     · have:=SymSt_turn hs hi h1 h4;rw[List.set_append_right _ _ (Nat.le_refl _),Nat.sub_self] at this;exact this
     · have:=hK ⟨some b,(ddTo u g.n).length,g.cap,(strsL dec (ddTo u g.n)),rest,by rw[strsL_len,Nat.mul_one],by omega,by omega,fun h=> by cases h⟩ rfl rfl;exact this
end Go.Proofs.YtdnfdeplcjaonaaGreatDoor
