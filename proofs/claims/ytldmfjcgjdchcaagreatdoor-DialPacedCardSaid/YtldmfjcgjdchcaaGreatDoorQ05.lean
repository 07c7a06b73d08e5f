/-
  Texts of the proofs over baudot/dial: A18 A19 A20 Bytes DT Unsafe Turn C1 S1 S2 S3 Clr S4 S5 S6 S7 C2 C3 C4 C5 App2 C6 C7 Draw5.
-/
import Derived.Test.YtldmfjcgjdchcaaGreatDoorQ04
namespace Go.Proofs.YtldmfjcgjdchcaaGreatDoor
open Go.RL Go.Proofs.Tryz
set_option maxRecDepth 10000
set_option maxHeartbeats 16000000
theorem none_le {H H':View}(h:H.le H'){b:Nat}(hb:H' b=none):H b=none:=by
 cases e:H b with
 | none=> rfl
 | some x=> rw[h _ _ e] at hb;cases hb
def Bk.claimOf(k:Bk)(z:Int):Int:=if z∈k.resL then if k.resL.length=1 then 1 else 0 else 2
theorem Bk.claimOf_in(k:Bk)(z:Int):0≤k.claimOf z∧k.claimOf z≤2:=by
 unfold Bk.claimOf;split
 · split <;> omega
 · omega
def clL(f:Nat→Int)(n:Nat):List Value:=(List.range n).map fun i=> .int .i64 (f i)
theorem clL_succ(f:Nat→Int)(n:Nat):clL f (n+1)=clL f n++[.int .i64 (f n)]:=by
 unfold clL;rw[List.range_succ,List.map_append];rfl
theorem clL_len(f:Nat→Int)(n:Nat):(clL f n).length=n:=by simp[clL]
def reachV(g:Gl 110 1)(c a:Int):Value:=.tuple ⟨[g.val,.int .i64 c,.int .i64 a]⟩
def Bk.needTo(k:Bk)(line:Nat):Nat→Int
 | 0=> k.claimOf (line:Nat)
 | i+1=> andOf (k.needTo line i) (if k.free line i=0 then 0 else if k.free line i=1 then 2 else 1)
def Bk.takenAt(k:Bk)(line i:Nat):Int:=andOf (k.needTo line i) (k.free line i)
section
variable(M:Md prog)(H:View)
theorem claimOf_c(k:Bk)(z:Int)(m:Nat)(es:Array MapEntry)(cl:Nat)(f:Bool)(hm:H m=some (f,.map es cl))(hok:MapOk es cl (resF k.resS)):
   CallT M 123 #[.map (some m),.int .i64 z] H (fun v H'=> H.le H'∧v=.int .i64 (k.claimOf z)):=by
 refine claim_c M H k.resS z m es cl f hm hok _ ?_;have h1:=Bk.res_size hok;have h2:=k.mem_resL z;unfold Bk.claimOf;by_cases c1:z∈k.resL
 · rw[if_pos c1];by_cases c2:k.resL.length=1
   · rw[if_pos c2];exact .inr (.inl ⟨h2.1 c1,by omega,rfl⟩)
   · rw[if_neg c2];exact .inr (.inr ⟨h2.1 c1,by omega,rfl⟩)
 · rw[if_neg c1];exact .inl ⟨fun h=> c1 (h2.2 h),rfl⟩
theorem Reaches_c(k:Bk)(A:Option Addr)(lc:Nat)(B:Option Addr)(tc:Nat)(hk:BkAt H k A lc B tc)(hn:k.small)(hG:Glob H)(ha:k.alarm=0):
   CallT M 50 #[k.val A lc B tc] H (fun v H'=> H.le H'∧∃g:Gl 110 1,v=reachV g (k.claimOf (-1)) 0∧(g.n=k.nl∧g.l=clL (fun i=> k.claimOf (i:Nat)) k.nl)∧∀x∈g.bl,H' x.1=some x.2∧H x.1=none):=by
 obtain⟨_,hnl,hnt,hok⟩:=Bk.valid ha;have hop:=fun(H':View) (h':H.le H')=> open_yes M H' k A lc B tc (hk.le h') hn (glob_le hG h') ha;refine .en func50 ntmps50 fun St c cs hK=> ?_;refine U2 ?_;refine .bo fun b1=> ?_;refine U7 ?_;refine .c rfl rfl rfl rfl (fun H hs=> .h (hop H hs.base)) ?_;refine U3 ?_;refine .al fun b5=> ?_;refine U14 ?_;refine To.callF rfl rfl rfl rfl rfl rfl (by decide) (FnT.h (results_c M H k A lc B tc hk.rows hn.nl hk.trains hok hnt)) (fun v H₂ hv=> ?_);obtain⟨hle,m,es,cl,rfl,⟨fm,q3⟩,q4⟩:=hv;refine U11 ?_;refine Tc.db (Tc.loopInv (σ:= { s:Nat×Gl 110 1//s.1≤k.nl∧s.2.n=s.1∧s.2.l=clL (fun i=> k.claimOf (i:Nat)) s.1 })
   (fun s=> ([(1,.pointer (some ⟨b1,0,none⟩)),(2,s.1.2.val),(5,.pointer (some ⟨b5,0,none⟩)),(6,.map (some m)),(20,.int .i64 (k.nl:Nat)),(21,.int .i64 (s.1.1:Nat))],[(b5,true,.cells ⟨(k.val A lc B tc).cells.toList⟩ 166 (0,0)),(b1,true,.cells ⟨(k.val A lc B tc).cells.toList⟩ 45 (0,0))]++s.1.2.bl)) (fun s=> k.nl-s.1.1) ?_ ⟨(0,Gl.nil 110 1),Nat.zero_le _,rfl,rfl⟩)
 rintro⟨⟨j,g⟩,p1,p2,p3⟩ ih;simp only at p1 p2 p3;show Tc M St _ _ _ _ [(1,.pointer (some ⟨b1,0,none⟩)),(2,g.val),(5,.pointer (some ⟨b5,0,none⟩)),(6,.map (some m)),(20,.int .i64 (k.nl:Nat)),(21,.int .i64 (j:Nat))] ([(b5,true,.cells ⟨(k.val A lc B tc).cells.toList⟩ 166 (0,0)),(b1,true,.cells ⟨(k.val A lc B tc).cells.toList⟩ 45 (0,0))]++g.bl) _ _;by_cases c1:j=k.nl
 · subst c1;refine U11 ?_;refine .c rfl rfl rfl rfl (fun H hs=> .h (claimOf_c M H k (-1) m es cl fm (hs.base _ _ q3) q4)) ?_;refine U4 ?_;refine .rt hK func50 results50 [_,_,_] ?_;exact fun H' hs=> ⟨View.le_trans hle hs.base,g,rfl,⟨p2,p3⟩,fun x hx=> ⟨hs.at_ x (by simp[hx]),none_le hle (hs.out x (by simp[hx]))⟩⟩
 · have c2:j<k.nl:=by omega
   refine U18 ?_;refine .c rfl rfl rfl rfl (fun H hs=> .h (claimOf_c M H k (j:Nat) m es cl fm (hs.base _ _ q3) q4)) ?_;refine .e (.bs (zz:=fun bs=> ?_));refine .e (Or.append (E:=en) 3 rfl rfl rfl rfl rfl rfl rfl rfl rfl rfl rfl rfl rfl rfl rfl (fun H hs=> SrcAt.of (hs.get (i:=0) rfl) (Nat.le_of_ble_eq_true rfl)) rfl (by omega) rfl (by decide) (fun g' hn2 hl2=> ?_));refine U7 ?_;exact Tc.db (ih ⟨(j+1,g'),by simp only;omega,by simp only;omega,by simp only;rw[hl2,p3,clL_succ];rfl⟩ (by simp only;omega))
end
theorem firstA_zero {f:Nat→Int}:∀n,firstA f n=0→∀i,i<n→f i=0
 | 0,_,i,hi=> by omega
 | n + 1,h,i,hi=> by
   rw[firstA] at h;split at h
   · rename_i h0
     by_cases e:i=n
     · subst e;exact h
     · exact firstA_zero n h0 i (by omega)
   · rename_i h0
     exact(h0 h).elim
theorem Bk.line_ok {k:Bk}(h:k.alarm=0){i:Nat}(hi:i<k.nl):isNm (k.name i)=true∧k.again i=false∧isNum (k.num i)=true∧(k.pre i).clash (k.num i)=false∧(1≤k.nf i∧k.nf i≤4)∧∀j,j<k.nf i→0≤k.free i j∧k.free i j≤2:=by
 obtain⟨_,h2,_⟩:=Bk.alarm0 h;unfold Bk.linesA at h2;split at h2
 · cases h2
 · have h3 :=firstA_zero _ h2 i hi;unfold Bk.lineA at h3;split at h3
   · cases h3
   · rename_i q0
     split at h3
     · cases h3
     · rename_i q1
       split at h3
       · cases h3
       · rename_i q2
         split at h3
         · cases h3
         · rename_i q3
           split at h3
           · cases h3
           · rename_i q4
             split at h3
             · cases h3
             · rename_i q5
               have q4':=of_decide_eq_true (Bool.not_eq_false _▸q4:decide _=true);refine⟨by simpa using q0,by simpa using q1,by simpa using q2,by simpa using q3,by omega,fun j hj=> ?_⟩;unfold Bk.freeBad at q5;have h4:firstTo (fun j=> !claimOk (k.free i j)) (k.nf i)=none:=by
                 cases hz:firstTo (fun j=> !claimOk (k.free i j)) (k.nf i) with
                 | none=> rfl
                 | some y=> rw[hz] at q5;exact(q5 rfl).elim
               have h5:=(firstTo_none _).1 h4 j hj;unfold claimOk at h5;simpa using h5
theorem ldL_cell {sz off d:Nat}{gs c:List Value}(h:ldL true sz gs off=some (.agg ⟨c⟩))(hd:d<sz):ldL false 1 gs (off+d)=c[d]? :=by
 obtain⟨h1,h2⟩:=ldL_le h;simp only[Value.agg.injEq,Array.mk.injEq] at h2;show gs[_]? =_;rw[h2,List.getElem?_take,if_pos hd,List.getElem?_drop]
def tkL(k:Bk)(line j:Nat):List Value:=(List.range 4).map fun i=> .int .i64 (if i<j then k.takenAt line i else 0)
theorem tkL_st(k:Bk)(line j:Nat)(hj:j<4):stL (tkL k line j) (0+((j:Nat):Int).toNat*1) [.int .i64 (k.takenAt line j)]=tkL k line (j+1):=by
 rcases(by omega:j=0∨j=1∨j=2∨j=3) with rfl|rfl|rfl|rfl <;> rfl
theorem tkL_src(k:Bk)(line n:Nat)(hn:n≤4){H:View}{b:Nat}{f:Bool}{gt:TypeId}{gz:Nat×Nat}(hb:H b=some (f,.cells ⟨tkL k line n⟩ gt gz)):SrcAt H 1 (.slice (some ⟨b,0,none⟩) n 4) n (clL (k.takenAt line) n):=by
 have h:=SrcAt.of (sz:=1) (m:=n) (c:=4) (off:=0) hb (by simp[tkL];omega);have e:((tkL k line n).drop 0).take (n*1)=clL (k.takenAt line) n:=by
   rcases(by omega:n=0∨n=1∨n=2∨n=3∨n=4) with rfl|rfl|rfl|rfl|rfl <;> rfl
 rw[e] at h;exact h
theorem clL_single(f:Nat→Int)(n:Nat):(clL f n).all single=true:=by
 rw[List.all_eq_true];intro x hx;obtain⟨i,_,rfl⟩:=List.mem_map.1 hx;rfl
section
variable(M:Md prog)(H:View)
theorem Taken_c(k:Bk)(A:Option Addr)(lc:Nat)(B:Option Addr)(tc:Nat)(hk:BkAt H k A lc B tc)(hn:k.small)(hG:Glob H)(ha:k.alarm=0)(line:Nat)(hl:line<k.nl):
   CallT M 54 #[k.val A lc B tc,.int .i64 (line:Nat)] H (fun v H'=> H.le H'∧∃g:Gl 110 1,v=reachV g (k.needTo line (k.nf line)) 0∧(g.n=k.nf line∧g.l=clL (k.takenAt line) (k.nf line))∧∀x∈g.bl,H' x.1=some x.2∧H x.1=none):=by
 obtain⟨_,hnl,hnt,hok⟩:=Bk.valid ha;obtain⟨_,_,_,_,hnf,hfr⟩:=Bk.line_ok ha hl;have hb:=fun(H':View)=> between_is M H' ((line:Nat):Int) 0 ((k.nl:Int)-1) true (decide_eq_true (by omega));have hop:=fun(H':View) (h':H.le H')=> open_yes M H' k A lc B tc (hk.le h') hn (glob_le hG h') ha;have hRows:=hk.rows;obtain⟨_,h0|⟨ab,ao,fa,gs,gt,gz,rfl,hab,hrow⟩⟩:=hRows
 · omega
 obtain⟨F,fc,f1,hfc,hF⟩:=hrow line hl;have f2:ldL false 1 gs (ao+((line:Nat):Int).toNat*3+2)=some (.slice F (k.nf line) fc):=ldL_cell f1 (by decide);obtain h0|⟨fb,fo,ff,fs,ft,fz,rfl,hfb,hfl⟩:=hF
 · omega
 obtain⟨_,fg,gt1,gz1,hg1⟩:=hG;refine .en func54 ntmps54 fun St c cs hK=> ?_;refine U2 ?_;refine .bo fun b2=> ?_;refine U5 ?_;refine Tc.dr [12] [] mixed rfl ?_;refine .nn 0 ?_;refine .nn 1 ?_;refine .nn 2 ?_;refine .nn 3 ?_;refine .nn 4 ?_;refine .nn 5 ?_;refine .z 6 rfl (OpV.takeCall rfl rfl rfl rfl (fun H hs=> .h (hb H))) ?_;refine .z 7 rfl (OpV.takeCall rfl rfl rfl rfl (fun H hs=> .h (hop H hs.base))) ?_;refine .nn 8 ?_;refine .nn 9 ?_;refine .nw 10 ?_;refine Ta.each [11] (by kernel_rfl) rfl ⟨TaOp.mk rfl rfl rfl (.al (zz:=fun b7=> ⟨S2.mk (by apply List.Sublist.cons;exact List.Sublist.refl _) (.inr (by apply List.Sublist.cons;exact List.Sublist.refl _)),?_⟩)),trivial⟩;refine .e 12 0 ?_;refine .nw 13 ?_;refine .dn ?_;refine U10 ?_;refine .al fun b8=> ?_;refine U4 ?_;refine To.callF rfl rfl rfl rfl rfl rfl (by decide) (FnT.h (results_c M H k (some ⟨ab,ao,none⟩) lc B tc hk.rows hn.nl hk.trains hok hnt)) (fun v H₂ hv=> ?_);obtain⟨hle,m,es,cl,rfl,⟨fm,q3⟩,q4⟩:=hv;have hab2:=hle _ _ hab;have hfb2:=hle _ _ hfb;have hg2:=hle _ _ hg1;refine U ?_;refine .c rfl rfl rfl rfl (fun H hs=> .h (claimOf_c M H k (line:Nat) m es cl fm (hs.base _ _ q3) q4)) ?_;refine U20 ?_;refine Tc.db (Tc.loopInv (σ:= { j:Nat//j≤k.nf line }) (fun j=> ([(2,.pointer (some ⟨b2,0,none⟩)),(4,.slice none 0 0),(5,.int .i64 (k.needTo line j.1)),(7,.pointer (some ⟨b7,0,none⟩)),(8,.pointer (some ⟨b8,0,none⟩)),(9,.slice (some ⟨fb,fo,none⟩) (k.nf line) fc),(36,.slice (some ⟨fb,fo,none⟩) (k.nf line) fc),(37,.int .i64 (k.nf line:Nat)),(38,.int .i64 (j.1:Nat))],
   [(b8,true,.cells ⟨tkL k line j.1⟩ 240 (0,0)),(b7,true,.cells ⟨(k.val (some ⟨ab,ao,none⟩) lc B tc).cells.toList⟩ 166 (0,0)),(b2,true,.cells ⟨(k.val (some ⟨ab,ao,none⟩) lc B tc).cells.toList⟩ 45 (0,0))])) (fun j=> k.nf line-j.1) ?_ ⟨0,Nat.zero_le _⟩)
 rintro⟨j,hj⟩ ih;show Tc M St _ _ _ _ [(2,.pointer (some ⟨b2,0,none⟩)),(4,.slice none 0 0),(5,.int .i64 (k.needTo line j)),(7,.pointer (some ⟨b7,0,none⟩)),(8,.pointer (some ⟨b8,0,none⟩)),(9,.slice (some ⟨fb,fo,none⟩) (k.nf line) fc),(36,.slice (some ⟨fb,fo,none⟩) (k.nf line) fc),(37,.int .i64 (k.nf line:Nat)),(38,.int .i64 (j:Nat))]
   [(b8,true,.cells ⟨tkL k line j⟩ 240 (0,0)),(b7,true,.cells ⟨(k.val (some ⟨ab,ao,none⟩) lc B tc).cells.toList⟩ 166 (0,0)),(b2,true,.cells ⟨(k.val (some ⟨ab,ao,none⟩) lc B tc).cells.toList⟩ 45 (0,0))] _ _
 by_cases c1:j=k.nf line
 · subst c1;refine U12 ?_;refine .x (OpV.sliceA (E:=en) (off':=0) rfl rfl rfl rfl rfl rfl rfl rfl (by omega) (by omega) (by omega) (by rw[if_neg (by decide)];rfl)) ?_;refine .e (Or.append (E:=en) (g:=Gl.nil 110 1) (m:=k.nf line) (new:=clL (k.takenAt line) (k.nf line)) (yv:=.slice (some ⟨b8,0,none⟩) (k.nf line) 4) 3 rfl rfl rfl rfl rfl rfl rfl rfl rfl rfl rfl rfl rfl rfl rfl (fun H hs=> tkL_src k line (k.nf line) hnf.2 (hs.get (i:=0) rfl)) (clL_single _ _) (by show 0+k.nf line≤_;omega) rfl (by decide) (fun g' hn2 hl2=> ?_));refine U5 ?_;refine .rt hK func54 results54 [_,_,_] ?_;exact fun H' hs=> ⟨View.le_trans hle hs.base,g',rfl,⟨by rw[hn2];exact Nat.zero_add _,by rw[hl2];rfl⟩,fun x hx=> ⟨hs.at_ x (by simp[hx]),none_le hle (hs.out x (by simp[hx]))⟩⟩
 · have c2:j<k.nf line:=by omega
   have f3:=hfl j c2;have hfj:=hfr j c2;obtain⟨nz,hnz⟩:∃z,(if k.free line j=0 then 0 else if k.free line j=1 then 2 else 1:Int)=z:=⟨_,rfl⟩
   have f4:ldL false 1 [Value.int .i64 0,.int .i64 2,.int .i64 1] (0+(k.free line j).toNat*1)=some (.int .i64 nz):=by
     rw[←hnz];rcases(by omega:k.free line j=0∨k.free line j=1∨k.free line j=2) with h|h|h <;> rw[h] <;> rfl
   have f5:Nat.ble (0+((j:Nat):Int).toNat*1+1) (tkL k line j).length=true:=by
     refine Nat.ble_eq_true_of_le ?_;rw[Int.toNat_natCast];simp[tkL]
     omega
   have f6:=tkL_st k line j (by omega);have en1:k.needTo line (j+1)=andOf (k.needTo line j) nz:=by rw[Bk.needTo,hnz]
   refine U17 ?_;refine Tc.dr [10] [0] mixed rfl ?_;refine .nn 0 ?_;refine .nn 1 ?_;refine .nn 2 ?_;refine .z 3 rfl (OpV.takeCall rfl rfl rfl rfl (fun H hs=> .h (and_c M H (k.needTo line j) (k.free line j)))) ?_;refine .nw 4 ?_;refine .nw 5 ?_;refine .nw 6 ?_;refine .nn 7 ?_;refine .z 8 rfl (OpV.takeCall rfl rfl rfl rfl (fun H hs=> .h (and_c M H (k.needTo line j) nz))) ?_;refine .nn 9 ?_;refine .e 10 0 ?_;refine .nw 11 ?_;refine .dn ?_;refine U5 ?_;refine Tc.dropB (ih ⟨j+1,by omega⟩ (by simp only;omega)) ?_ ?_
   · simp only[en1];exact⟨rfl,rfl,rfl,rfl,rfl,rfl,rfl,rfl,rfl,trivial⟩
   · exact(by exact List.Sublist.refl _)
end
theorem BookAt.bk {H:View}{k:Bk}{A:Option Addr}{lc:Nat}{B:Option Addr}{tc:Nat}{F:Nat→Option Addr}{fc:Nat→Nat}(h:BookAt H k A lc B tc F fc):BkAt H k A lc B tc:=⟨h.rowsAt,h.trainsAt⟩
def bookV(x:Value)(a:Int):Value:=.tuple ⟨[x,.int .i64 a]⟩
def noBook(a:Int):Value:=bookV (bk0.val none 0 none 0) a
def imax(a b:Int):Int:=if a<b then b else a
def imin(a b:Int):Int:=if b<a then b else a
def Bk.nowOk(k:Bk)(t:Nat)(a b c' d:Int):Bool:=trainOk (imax (k.pf t) a) (imin (k.pt t) b) (imax (k.qf t) c') (imin (k.qt t) d)
def Bk.now(k:Bk)(t:Nat)(a b c' d:Int):Bk:=k.with t (imax (k.pf t) a) (imin (k.pt t) b) (imax (k.qf t) c') (imin (k.qt t) d)
section
variable(M:Md prog)(H:View)
theorem Know_limit(k:Bk)(A:Option Addr)(lc:Nat)(B:Option Addr)(tc:Nat)(hk:BkAt H k A lc B tc)(hn:k.small)(hG:Glob H)(ha:k.alarm=0)(t:Nat)(ht:t<k.nt)(a b c' d:Int)(hx:trainOk a b c' d=false):
   CallT M 53 #[k.val A lc B tc,.int .i64 (t:Nat),trainV a b c' d] H (fun v H'=> H.le H'∧v=noBook 1):=by
 have hnt:=hn.nt;have hb:=fun(H':View)=> between_is M H' ((t:Nat):Int) 0 ((k.nt:Int)-1) true (decide_eq_true (by omega));refine .en func53 ntmps53 fun St c cs hK=> ?_;refine U2 ?_;refine .bo fun b3=> ?_;refine .bo fun b5=> ?_;refine .al fun b6=> ?_;refine U3 ?_;refine Tc.dr [12] [] mixed rfl ?_;refine .nn 0 ?_;refine .nn 1 ?_;refine .nn 2 ?_;refine .nn 3 ?_;refine .nn 4 ?_;refine .nn 5 ?_;refine .z 6 rfl (OpV.takeCall rfl rfl rfl rfl (fun H hs=> .h (hb H))) ?_;refine .z 7 rfl (OpV.takeCall rfl rfl rfl rfl (fun H hs=> .h (open_yes M H k A lc B tc (hk.le hs.base) hn (glob_le hG hs.base) ha))) ?_;refine .nn 8 ?_;refine .nn 9 ?_;refine .nw 10 ?_;refine Ta.each [11] (by kernel_rfl) rfl ⟨TaOp.mk rfl rfl rfl (.al (zz:=fun b8=> ⟨S2.mk (by apply List.Sublist.cons;exact List.Sublist.refl _) (.inr (by apply List.Sublist.cons;exact List.Sublist.refl _)),?_⟩)),trivial⟩;refine .e 12 0 ?_;refine .nw 13 ?_;refine .dn ?_;refine U12 ?_;refine .c rfl rfl rfl rfl (fun H hs=> .h (isB (isTrain_c M H a b c' d) hx)) ?_;refine U10 ?_;refine .rt hK func53 results53 [_,_] ?_;exact okB
theorem Know_conflict(k:Bk)(A:Option Addr)(lc:Nat)(B:Option Addr)(tc:Nat)(hk:BkAt H k A lc B tc)(hn:k.small)(hG:Glob H)(ha:k.alarm=0)(t:Nat)(ht:t<k.nt)(a b c' d:Int)(hx:trainOk a b c' d=true)(hy:k.nowOk t a b c' d=false):
   CallT M 53 #[k.val A lc B tc,.int .i64 (t:Nat),trainV a b c' d] H (fun v H'=> H.le H'∧v=noBook 10):=by
 have hnt:=hn.nt;have hb:=fun(H':View)=> between_is M H' ((t:Nat):Int) 0 ((k.nt:Int)-1) true (decide_eq_true (by omega));have hT:=hk.trains;obtain⟨_,h0|⟨tb,to,ft,gs,gt,gz,rfl,htb,hl⟩⟩:=hT
 · omega
 have f1:=hl t ht;refine .en func53 ntmps53 fun St c cs hK=> ?_;refine U2 ?_;refine .bo fun b3=> ?_;refine .bo fun b5=> ?_;refine .al fun b6=> ?_;refine U3 ?_;refine Tc.dr [12] [] mixed rfl ?_;refine .nn 0 ?_;refine .nn 1 ?_;refine .nn 2 ?_;refine .nn 3 ?_;refine .nn 4 ?_;refine .nn 5 ?_;refine .z 6 rfl (OpV.takeCall rfl rfl rfl rfl (fun H hs=> .h (hb H))) ?_;refine .z 7 rfl (OpV.takeCall rfl rfl rfl rfl (fun H hs=> .h (open_yes M H k A lc (some ⟨tb,to,none⟩) tc (hk.le hs.base) hn (glob_le hG hs.base) ha))) ?_;refine .nn 8 ?_;refine .nn 9 ?_;refine .nw 10 ?_;refine Ta.each [11] (by kernel_rfl) rfl ⟨TaOp.mk rfl rfl rfl (.al (zz:=fun b8=> ⟨S2.mk (by apply List.Sublist.cons;exact List.Sublist.refl _) (.inr (by apply List.Sublist.cons;exact List.Sublist.refl _)),?_⟩)),trivial⟩;refine .e 12 0 ?_;refine .nw 13 ?_;refine .dn ?_;refine U12 ?_;refine .c rfl rfl rfl rfl (fun H hs=> .h (isB (isTrain_c M H a b c' d) hx)) ?_;refine U13 ?_;refine .al fun b10=> ?_;refine U3 ?_;refine Tc.dr [12] [] mixed rfl ?_;refine .nn 0 ?_;refine .nn 1 ?_;refine .nn 2 ?_;refine .nn 3 ?_;refine .z 4 rfl (OpV.takeCall rfl rfl rfl rfl (fun H hs=> .h (both_c M H (k.pf t) (k.pt t) a b (imax (k.pf t) a) (imin (k.pt t) b) rfl rfl))) ?_;refine .nn 5 ?_;refine .nn 6 ?_;refine .nn 7 ?_;refine .nn 8 ?_;refine .z 9 rfl (OpV.takeCall rfl rfl rfl rfl (fun H hs=> .h (both_c M H (k.qf t) (k.qt t) c' d (imax (k.qf t) c') (imin (k.qt t) d) rfl rfl))) ?_;refine .nn 10 ?_;refine Ta.each [11] (by kernel_rfl) rfl ⟨TaOp.mk rfl rfl rfl (.al (zz:=fun b11=> ⟨S2.mk (by apply List.Sublist.cons;exact List.Sublist.refl _) (.inr (by apply List.Sublist.cons;exact List.Sublist.refl _)),?_⟩)),trivial⟩;refine .e 12 0 ?_;refine .dn ?_;refine U4 ?_;refine .c rfl rfl rfl rfl (fun H hs=> .h (isB (isTrain_c M H (imax (k.pf t) a) (imin (k.pt t) b) (imax (k.qf t) c') (imin (k.qt t) d)) hy)) ?_;refine U9 ?_;refine .rt hK func53 results53 [_,_] ?_;exact okB
theorem Know_c(k:Bk)(A:Option Addr)(lc:Nat)(B:Option Addr)(tc:Nat)(F:Nat→Option Addr)(fc:Nat→Nat)(hB:BookAt H k A lc B tc F fc)(hn:k.small)(hG:Glob H)(ha:k.alarm=0)(t:Nat)(ht:t<k.nt)(a b c' d:Int)(hx:trainOk a b c' d=true)(hy:k.nowOk t a b c' d=true):
   CallT M 53 #[k.val A lc B tc,.int .i64 (t:Nat),trainV a b c' d] H (fun v H'=> H.le H'∧∃A' lc' B' tc' F' fc',v=bookV ((k.now t a b c' d).val A' lc' B' tc') 0∧BookAt H' (k.now t a b c' d) A' lc' B' tc' F' fc'):=by
 have hk:=hB.bk;have hnt:=hn.nt;have hb:=fun(H':View)=> between_is M H' ((t:Nat):Int) 0 ((k.nt:Int)-1) true (decide_eq_true (by omega));have hT:=hk.trains;obtain⟨_,h0|⟨tb,to,ft,gs,gt,gz,rfl,htb,hl⟩⟩:=hT
 · omega
 have f1:=hl t ht;refine .en func53 ntmps53 fun St c cs hK=> ?_;refine U2 ?_;refine .bo fun b3=> ?_;refine .bo fun b5=> ?_;refine .al fun b6=> ?_;refine U3 ?_;refine Tc.dr [12] [] mixed rfl ?_;refine .nn 0 ?_;refine .nn 1 ?_;refine .nn 2 ?_;refine .nn 3 ?_;refine .nn 4 ?_;refine .nn 5 ?_;refine .z 6 rfl (OpV.takeCall rfl rfl rfl rfl (fun H hs=> .h (hb H))) ?_;refine .z 7 rfl (OpV.takeCall rfl rfl rfl rfl (fun H hs=> .h (open_yes M H k A lc (some ⟨tb,to,none⟩) tc (hk.le hs.base) hn (glob_le hG hs.base) ha))) ?_;refine .nn 8 ?_;refine .nn 9 ?_;refine .nw 10 ?_;refine Ta.each [11] (by kernel_rfl) rfl ⟨TaOp.mk rfl rfl rfl (.al (zz:=fun b8=> ⟨S2.mk (by apply List.Sublist.cons;exact List.Sublist.refl _) (.inr (by apply List.Sublist.cons;exact List.Sublist.refl _)),?_⟩)),trivial⟩;refine .e 12 0 ?_;refine .nw 13 ?_;refine .dn ?_;refine U12 ?_;refine .c rfl rfl rfl rfl (fun H hs=> .h (isB (isTrain_c M H a b c' d) hx)) ?_;refine U13 ?_;refine .al fun b10=> ?_;refine U3 ?_;refine Tc.dr [12] [] mixed rfl ?_;refine .nn 0 ?_;refine .nn 1 ?_;refine .nn 2 ?_;refine .nn 3 ?_;refine .z 4 rfl (OpV.takeCall rfl rfl rfl rfl (fun H hs=> .h (both_c M H (k.pf t) (k.pt t) a b (imax (k.pf t) a) (imin (k.pt t) b) rfl rfl))) ?_;refine .nn 5 ?_;refine .nn 6 ?_;refine .nn 7 ?_;refine .nn 8 ?_;refine .z 9 rfl (OpV.takeCall rfl rfl rfl rfl (fun H hs=> .h (both_c M H (k.qf t) (k.qt t) c' d (imax (k.qf t) c') (imin (k.qt t) d) rfl rfl))) ?_;refine .nn 10 ?_;refine Ta.each [11] (by kernel_rfl) rfl ⟨TaOp.mk rfl rfl rfl (.al (zz:=fun b11=> ⟨S2.mk (by apply List.Sublist.cons;exact List.Sublist.refl _) (.inr (by apply List.Sublist.cons;exact List.Sublist.refl _)),?_⟩)),trivial⟩;refine .e 12 0 ?_;refine .dn ?_;refine U4 ?_;refine .c rfl rfl rfl rfl (fun H hs=> .h (isB (isTrain_c M H (imax (k.pf t) a) (imin (k.pt t) b) (imax (k.qf t) c') (imin (k.qt t) d)) hy)) ?_;refine U9 ?_;refine To.callF rfl rfl rfl rfl rfl rfl (by decide) (FnT.h (with_c M H k A lc (some ⟨tb,to,none⟩) tc F fc hB hn.nl hn.nt (fun i hi=> (hn.num i hi).2) t ht (imax (k.pf t) a) (imin (k.pt t) b) (imax (k.qf t) c') (imin (k.qt t) d))) (fun v H₅ hv=> ?_);obtain⟨hle5,A',lc',B',tc',F',fc',rfl,hB'⟩:=hv;refine U4 ?_;refine .rt hK func53 results53 [_,_] ?_;exact fun H' hs=> ⟨View.le_trans hle5 hs.base,A',lc',B',tc',F',fc',rfl,hB'.le hs.base⟩
end
end Go.Proofs.YtldmfjcgjdchcaaGreatDoor
namespace Go.RL
open Go.Conc
section
variable {P:Program}{E:Env P}{M:Md P}{n:Nat}{H₀:View}{R:Rg}{L L':Bl}{K:Rg→Bl→Prop}{o:Oper}{d:Nat}{v:Value}
end
end Go.RL
namespace Go.Proofs.YtldmfjcgjdchcaaGreatDoor
open Go.RL Go.Proofs.Tryz
set_option maxRecDepth 10000
set_option maxHeartbeats 8000000
section
variable(M:Md prog)(H:View)
end
end Go.Proofs.YtldmfjcgjdchcaaGreatDoor
namespace Go.RL
open Go.Conc
section
variable {P:Program}{E:Env P}{M:Md P}{n:Nat}{H₀:View}{R:Rg}{L L':Bl}{K:Rg→Bl→Prop}{o:Oper}{d:Nat}{v:Value}
structure Xt(P:Program)(f:FuncId)(e:Array Value→Sem Value):Prop where
 ex:∃fn,P.funcs[f]? =some fn∧(fn.name== "runtime.NumGoroutine")=false∧fn.body.isNone=true∧Extern.findNext fn=none∧Extern.find fn=some e
end
section
variable {P:Program}{E:Env P}{M:Md P}{n:Nat}{H₀:View}{R:Rg}{L L':Bl}{o:Oper}{K:Rg→Bl→Prop}{d:Nat}
end
end Go.RL
namespace Go.Proofs.YtldmfjcgjdchcaaGreatDoor
open Go.RL Go.Proofs.Tryz
set_option maxRecDepth 10000
set_option maxHeartbeats 16000000
def pn(x:UInt8):Nat:=if x.toNat=48 then 10 else x.toNat-48
theorem pn_in {x:UInt8}(h:dig x=true):1≤pn x∧pn x≤10:=by
 have:=of_decide_eq_true h;unfold pn;split <;> omega
def pnAt(s:List UInt8)(i:Nat):Nat:=pn (s[i]?.getD 48)
def slip(s:List UInt8)(i m:Nat):List UInt8:=s.take i++[digB m]++s.drop (i+1)
def slipAt(s:List UInt8)(i m:Nat):List (List UInt8):=if 1≤m∧m≤10 then [slip s i m] else []
def slipsAt(s:List UInt8)(i:Nat):List (List UInt8):=slipAt s i (pnAt s i-1)++slipAt s i (pnAt s i+1)
def slipsFrom(s:List UInt8)(i:Nat):List (List UInt8):=(List.range' i (s.length-i)).flatMap (slipsAt s)
def slipsL(s:List UInt8):List (List UInt8):=slipsFrom s 0
theorem slipsFrom_cons {s:List UInt8}{i:Nat}(h:i<s.length):slipsFrom s i=slipsAt s i++slipsFrom s (i+1):=by
 unfold slipsFrom;rw[show s.length-i=(s.length-(i+1))+1 by omega];rfl
theorem slipsFrom_nil {s:List UInt8}{i:Nat}(h:s.length≤i):slipsFrom s i= []:=by
 unfold slipsFrom;rw[show s.length-i=0 by omega];rfl
theorem mem_slipsFrom {s x:List UInt8}{i:Nat}:x∈slipsFrom s i↔∃j,i≤j∧j<s.length∧x∈slipsAt s j:=by
 unfold slipsFrom;simp only[List.mem_flatMap,List.mem_range'_1];constructor
 · rintro⟨j,h1,h2⟩;exact⟨j,h1.1,by omega,h2⟩
 · rintro⟨j,h1,h2,h3⟩;exact⟨j,⟨h1,by omega⟩,h3⟩
def slipM(s:List UInt8)(i j:Nat):Nat:=if j=0 then pnAt s i-1 else pnAt s i+1
def slipsMid(s:List UInt8)(i j:Nat):List (List UInt8):=(if j=0 then slipAt s i (pnAt s i-1) else [])++((if j≤1 then slipAt s i (pnAt s i+1) else [])++slipsFrom s (i+1))
theorem slipsMid_next(s:List UInt8)(i j:Nat)(h:j<2):slipsMid s i j=slipAt s i (slipM s i j)++slipsMid s i (j+1):=by
 rcases(by omega:j=0∨j=1) with rfl|rfl
 · simp[slipsMid,slipM]
 · simp[slipsMid,slipM]
theorem slipsMid_two(s:List UInt8)(i:Nat):slipsMid s i 2=slipsFrom s (i+1):=by simp[slipsMid]
theorem slipsMid_zero {s:List UInt8}{i:Nat}(h:i<s.length):slipsFrom s i=slipsMid s i 0:=by
 rw[slipsFrom_cons h];simp[slipsMid,slipsAt]
def slipF(b:Nat):Value:=.func (.func 221) #[] #[.pointer (some ⟨b,0,none⟩)]
def CapS(s:List UInt8)(b:Nat)(H:View):Prop:=∃f,H b=some (f,.cells ⟨[strV s]⟩ 9 (0,0))
theorem CapS.le {s:List UInt8}{b:Nat}(H H':View)(h:H.le H')(c:CapS s b H):CapS s b H':=c.imp fun _ e=> h _ _ e
theorem dec_dig(s:List UInt8)(p:Nat)(hp:p<s.length)(hd:s.all dig=true):∃x,s[p]? =some x∧dig x=true∧Utf8.decode ⟨⟨s⟩⟩ p=(x.toNat,1):=by
 have hx:=List.getElem?_eq_getElem hp;have h1:dig s[p]=true:=List.all_eq_true.1 hd _ (List.getElem_mem hp);refine⟨s[p],hx,h1,?_⟩;obtain⟨z,w,h2,_,y,h3,h4,_⟩:=dec_at s p hp;rw[hx] at h3;cases h3
 have:=of_decide_eq_true h1;obtain⟨rfl,rfl⟩:=h4 (by omega);exact h2
section
variable(M:Md prog)(H:View)
theorem pulses_c(x:UInt8)(hx:dig x=true):CallT M 44 #[.int .i32 (x.toNat:Nat)] H (fun v H'=> H.le H'∧v=.int .i64 (pn x:Nat)):=by
 have hd:=of_decide_eq_true hx;by_cases c1:x.toNat=48
 · have e:pn x=10:=if_pos c1;rw[e,c1];refine .en func44 ntmps44 fun St c cs hK=> ?_;refine U15 ?_;refine .rt hK func44 results44 [_] ?_;exact okB
 · have e:pn x=x.toNat-48:=if_neg c1;rw[e];have c2:¬((x.toNat:Nat):Int)=48:=by omega
   have w1:intBin .sub .i32 ((x.toNat:Nat):Int) 48=some (.int .i32 ((x.toNat-48:Nat):Int)):=by
     have:IntKind.i32.wrap (((x.toNat:Nat):Int)-48)=((x.toNat-48:Nat):Int):=by
       rw[show((x.toNat:Nat):Int)-48=((x.toNat-48:Nat):Int) by omega];exact IntWalk.i32_in _ ⟨by omega,by omega⟩
     show some (Value.int _ (IntKind.i32.wrap _))=_;rw[this]
   have w2:IntKind.i64.wrap ((x.toNat-48:Nat):Int)=((x.toNat-48:Nat):Int):=wrap64 (by omega) (by omega);refine .en func44 ntmps44 fun St c cs hK=> ?_;refine U19 ?_;refine .rt hK func44 results44 [_] ?_;exact okB
theorem small_c(m:Nat)(hm:m<10):CallT M 286 #[.int .i64 (m:Nat)] H (fun v H'=> H.le H'∧v=strV [digB m]):=by
 have e:(([48,49,50,51,52,53,54,55,56,57,97,98,99,100,101,102,103,104,105,106,107,108,109,110,111,112,113,114,115,116,117,118,119,120,121,122]:List UInt8).drop ((m:Nat):Int).toNat).take ((((m:Nat):Int)+1).toNat-((m:Nat):Int).toNat)= [digB m]:=by
   rcases(by omega:m=0∨m=1∨m=2∨m=3∨m=4∨m=5∨m=6∨m=7∨m=8∨m=9) with rfl|rfl|rfl|rfl|rfl|rfl|rfl|rfl|rfl|rfl <;> rfl
 have hl:(([48,49,50,51,52,53,54,55,56,57,97,98,99,100,101,102,103,104,105,106,107,108,109,110,111,112,113,114,115,116,117,118,119,120,121,122]:List UInt8).length:Nat)=36:=rfl;rw[←e];refine .en func286 ntmps286 fun St c cs hK=> ?_;refine U16 ?_;refine .x (OpV.sliceS (E:=en) (l:= [48,49,50,51,52,53,54,55,56,57,97,98,99,100,101,102,103,104,105,106,107,108,109,110,111,112,113,114,115,116,117,118,119,120,121,122]) rfl rfl rfl rfl rfl rfl (by omega) (by omega) (by omega)) ?_;refine U2 ?_;refine .rt hK func286 results286 [_] ?_;exact okB
theorem FormatInt_c(m:Nat)(hm:m<10):CallT M 240 #[.int .i64 (m:Nat),.int .i64 10] H (fun v H'=> H.le H'∧v=strV [digB m]):=by
 refine .en func240 ntmps240 fun St c cs hK=> ?_;refine U25 ?_;refine .c rfl rfl rfl rfl (fun H hs=> .h (small_c M H m hm)) ?_;refine U2 ?_;refine .rt hK func240 results240 [_] ?_;exact okB
theorem Itoa0_c(m:Nat)(hm:m<10):CallT M 173 #[.int .i64 (m:Nat)] H (fun v H'=> H.le H'∧v=strV [digB m]):=by
 refine .en func173 ntmps173 fun St c cs hK=> ?_;refine U7 ?_;refine .c rfl rfl rfl rfl (fun H hs=> .h (FormatInt_c M H m hm)) ?_;refine U2 ?_;refine .rt hK func173 results173 [_] ?_;exact okB
theorem Itoa_c(m:Nat)(hm:m<10):CallT M 93 #[.int .i64 (m:Nat)] H (fun v H'=> H.le H'∧v=strV [digB m]):=by
 refine .en func93 ntmps93 fun St c cs hK=> ?_;refine U7 ?_;refine .c rfl rfl rfl rfl (fun H hs=> .h (Itoa0_c M H m hm)) ?_;refine U2 ?_;refine .rt hK func93 results93 [_] ?_;exact okB
theorem slips_c(s:List UInt8):CallT M 134 #[strV s] H (fun v H'=> H.le H'∧∃b,v=slipF b∧CapS s b H'):=by
 refine .en func134 ntmps134 fun St c cs hK=> ?_;refine U2 ?_;refine .bo fun b1=> ?_;refine U7 ?_;refine .rt hK func134 results134 [_] ?_;exact fun H' hs=> ⟨hs.base,b1,rfl,true,hs.get (i:=0) rfl⟩
theorem slips_it(s:List UInt8)(hs1:s.all dig=true)(hs2:s.length≤1000)(b1:Nat)(hC:CapS s b1 H):
   IterT M (slipF b1) (slipsL s) (fun x (_:Unit)=> [strV x]) (fun _ _=> []) (fun _ _=> []) (CapS s b1) [] H:=fun l J D hcap h0 hy H₀ hs₀=> by
 refine FnT.of (first:= []) (captured:= [_]) ca221 rfl ?_;obtain⟨fa,hb1⟩:=hC;refine CallT.enter (vs:= [.func (.yield l) #[] #[],.pointer (some ⟨b1,0,none⟩)]) func221 rfl ntmps221 (Nat.le_of_ble_eq_true rfl) (hs₀) fun St c cs hK=> ?_;refine U3 ?_;refine .e (Or.rangeS (E:=en) (s:=⟨⟨s⟩⟩) rfl rfl rfl rfl rfl (by decide) (fun it=> ?_));refine U2 ?_;refine Tc.db (Tc.loopB (σ:= { x:Nat×View//x.1≤s.length∧J (slipsFrom s x.1) x.2 })
   (fun x=> (x.1.2,[(0,.func (.yield l) #[] #[]),(1,.pointer (some ⟨b1,0,none⟩)),(8,.pointer (some ⟨it,0,none⟩))],[(it,true,.stringIter ⟨⟨s⟩⟩ x.1.1)])) (fun x=> s.length-x.1.1) ?_ ⟨(0,H),Nat.zero_le _,h0⟩)
 rintro⟨⟨p,H₁⟩,g1,j1⟩ ih₁;simp only at g1 j1;show Tc M St _ _ H₁ _ [(0,.func (.yield l) #[] #[]),(1,.pointer (some ⟨b1,0,none⟩)),(8,.pointer (some ⟨it,0,none⟩))] [(it,true,.stringIter ⟨⟨s⟩⟩ p)] _ _;by_cases c1:p=s.length
 · subst c1;rw[slipsFrom_nil (Nat.le_refl _)] at j1;have hnp:¬s.length<(ByteArray.mk ⟨s⟩).size:=by show ¬s.length<s.length;omega
   refine U2 ?_;refine .e (Or.nextS0 0 rfl rfl rfl hnp rfl (by decide) ?_);refine U5 ?_;refine .ov hK func221 results221 [] ?_;exact fun H' hs=> ⟨H₁,hs.base,.inl j1⟩
 · have c2:p<s.length:=by omega
   obtain⟨x,hx,hdx,hdec⟩:=dec_dig s p c2 hs1;have hpn:=pn_in hdx;have hps:p<(ByteArray.mk ⟨s⟩).size:=c2;have hpa:pnAt s p=pn x:=by unfold pnAt;rw[hx];rfl
   rw[slipsMid_zero c2] at j1;refine U2 ?_;refine .e (Or.nextS 0 rfl rfl rfl hps hdec rfl (by decide) ?_);refine U16 ?_;refine .c rfl rfl rfl rfl (fun H hs=> .h (pulses_c M H x hdx)) ?_;refine U2 ?_;refine .c rfl rfl rfl rfl (fun H hs=> .h (pulses_c M H x hdx)) ?_;refine U5 ?_;refine Tc.db (Tc.loopB (σ:= { y:Nat×View//y.1≤2∧J (slipsMid s p y.1) y.2 })
     (fun y=> (y.1.2,[(0,.func (.yield l) #[] #[]),(1,.pointer (some ⟨b1,0,none⟩)),(3,.int .i64 (p:Nat)),(8,.pointer (some ⟨it,0,none⟩)),(19,.agg ⟨[.int .i64 ((pn x:Nat)-1:Int),.int .i64 ((pn x:Nat)+1:Int)]⟩),(20,.int .i64 (y.1.1:Nat))],[(it,true,.stringIter ⟨⟨s⟩⟩ (p+1))])) (fun y=> 2-y.1.1) ?_ ⟨(0,H₁),by omega,j1⟩)
   rintro⟨⟨j,H₂⟩,g2,j2⟩ ih₂;simp only at g2 j2;show Tc M St _ _ H₂ _ [(0,.func (.yield l) #[] #[]),(1,.pointer (some ⟨b1,0,none⟩)),(3,.int .i64 (p:Nat)),(8,.pointer (some ⟨it,0,none⟩)),(19,.agg ⟨[.int .i64 ((pn x:Nat)-1:Int),.int .i64 ((pn x:Nat)+1:Int)]⟩),(20,.int .i64 (j:Nat))] [(it,true,.stringIter ⟨⟨s⟩⟩ (p+1))] _ _;by_cases c3:j=2
   · subst c3;rw[slipsMid_two] at j2;refine U8 ?_;exact Tc.db (ih₁ ⟨(p+1,H₂),by simp only;omega,j2⟩ (by simp only;omega))
   · have c4:j<2:=by omega
     obtain⟨m,hm⟩:∃m,slipM s p j=m:=⟨_,rfl⟩
     have f1:ldL false 1 [Value.int .i64 ((pn x:Nat)-1:Int),.int .i64 ((pn x:Nat)+1:Int)] (((j:Nat):Int).toNat*1)=some (.int .i64 (m:Nat)):=by
       rw[←hm];unfold slipM;rw[hpa];rcases(by omega:j=0∨j=1) with rfl|rfl
       · show some (Value.int .i64 _)=some (Value.int .i64 _)
         congr 2
         simp only[if_pos];omega
       · show some (Value.int .i64 _)=some (Value.int .i64 _)
         congr 2
     have hmb:m≤11:=by rw[←hm];unfold slipM;rw[hpa];split <;> omega
     rw[slipsMid_next s p j c4,hm] at j2;obtain⟨fc,hc1⟩:=hcap _ _ j2;by_cases c5:1≤((m:Nat):Int)∧((m:Nat):Int)≤10
     · have e1:slipAt s p m= [slip s p m]:=if_pos (by omega);rw[e1] at j2;have a2:intBin .rem .i64 (m:Nat) 10=some (.int .i64 ((m%10:Nat):Int)):=by rw[rem_in (by omega) (by omega)];rfl
       have hmem:slip s p m∈slipsL s:=by
         refine mem_slipsFrom.2 ⟨p,Nat.zero_le _,c2,?_⟩;have hm2:m=pnAt s p-1∨m=pnAt s p+1:=by rw[←hm];unfold slipM;split <;> simp
         unfold slipsAt;rcases hm2 with h|h
         · rw[List.mem_append];exact .inl (by rw[←h,e1];simp)
         · rw[List.mem_append];exact .inr (by rw[←h,e1];simp)
       have e2:(s.drop ((0:Nat):Int).toNat).take (((p:Nat):Int).toNat-((0:Nat):Int).toNat)++[digB (m%10)]++(s.drop (((p:Nat):Int)+1).toNat).take (((s.length:Nat):Int).toNat-(((p:Nat):Int)+1).toNat)=slip s p m:=by
         have e3:(((p:Nat):Int)+1).toNat=p+1:=by omega
         rw[dig_mod,e3];unfold slip;simp
         exact List.take_of_length_le (by rw[List.length_drop];exact Nat.le_refl _)
       have hlen:(slip s p m).length≤1001:=by
         unfold slip;simp
         omega
       refine U11 ?_;refine .x (OpV.index (E:=en) rfl rfl rfl rfl rfl rfl (by omega) (by omega) (by assumption)) ?_;refine U3 ?_;refine Tc.drC [] [16] [] mixed rfl ?_;refine .oo 0 ?_;refine Ta.tkC 1 (by kernel_rfl) rfl rfl (by decide) rfl rfl (OpV.takeCall rfl rfl rfl rfl (fun H hs=> .h (between_is M H (m:Nat) 1 10 true (decide_eq_true c5)))) ?_;refine .oo 2 ?_;refine .oo 3 ?_;refine .oo 4 ?_;refine .oo 5 ?_;refine Ta.tkC 6 (by kernel_rfl) rfl rfl (by decide) rfl rfl (OpV.take (OpV.sliceS (E:=en) rfl rfl rfl rfl rfl rfl (by omega) (by omega) (by omega))) ?_;refine .oo 7 ?_;refine .oo 8 ?_;refine Ta.tkC 9 (by kernel_rfl) rfl rfl (by decide) rfl rfl (OpV.takeCall rfl rfl rfl rfl (fun H hs=> .h (Itoa_c M H (m%10) (Nat.mod_lt _ (by decide))))) ?_;refine Ta.tkC 10 (by kernel_rfl) rfl rfl (by decide) rfl rfl (OpV.take (OpV.strB rfl rfl rfl (by exact strB_add (by simp <;> omega)))) ?_;refine .oo 11 ?_;refine .oo 12 ?_;refine .oo 13 ?_;refine Ta.tkC 14 (by kernel_rfl) rfl rfl (by decide) rfl rfl (OpV.take (OpV.sliceS (E:=en) rfl rfl rfl rfl rfl rfl (by omega) (by omega) (by omega))) ?_;refine Ta.tkC 15 (by kernel_rfl) rfl rfl (by decide) rfl rfl (OpV.take (OpV.strB rfl rfl rfl (by exact strB_add (by simp <;> omega)))) ?_;rw[e2];refine Ta.callF 16 (by kernel_rfl) rfl (by kernel_rfl) rfl rfl rfl rfl rfl rfl (by decide) (hy (slip s p m) (slipsMid s p (j+1)) () H₂ H₂ hmem j2 (SymSt.nil H₂)) (fun v H₃ hv=> ?_);rcases hv with ⟨rfl,H4,h8,j3⟩|⟨rfl,hD⟩
       · refine Ta.lower h8.base ?_;refine Ta.each [17] (by kernel_rfl) rfl ⟨TaOp.mk rfl rfl rfl (Or.ofV .nt rfl (by decide) ⟨S3.off (by kernel_rfl),?_⟩),trivial⟩;refine Ta.each [18] (by kernel_rfl) rfl ⟨TaOp.mk rfl rfl rfl (Or.ofV .pk rfl (by decide) ⟨S3.off (by kernel_rfl),?_⟩),trivial⟩;refine .dn ?_;refine U7 ?_;exact Tc.db (ih₂ ⟨(j+1,H4),by simp only;omega,j3⟩ (by simp only;omega))
       · refine Ta.each [17] (by kernel_rfl) rfl ⟨TaOp.mk rfl rfl rfl (Or.ofV .nt rfl (by decide) ⟨S3.off (by kernel_rfl),?_⟩),trivial⟩;refine Ta.each [18] (by kernel_rfl) rfl ⟨TaOp.mk rfl rfl rfl (Or.ofV .pk rfl (by decide) ⟨S3.off (by kernel_rfl),?_⟩),trivial⟩;refine .dn ?_;refine U ?_;refine .rt hK func221 results221 [] ?_;exact fun H' hs=> ⟨H₃,hs.base,.inr hD⟩
     · have e1:slipAt s p m= []:=if_neg (by omega);rw[e1] at j2;refine U11 ?_;refine .x (OpV.index (E:=en) rfl rfl rfl rfl rfl rfl (by omega) (by omega) (by assumption)) ?_;refine U3 ?_;refine Tc.dr [] [] mixed rfl ?_;refine .nn 0 ?_;refine .z 1 rfl (OpV.takeCall rfl rfl rfl rfl (fun H hs=> .h (between_is M H (m:Nat) 1 10 false (decide_eq_false c5)))) ?_;refine .nn 2 ?_;refine .nw 3 ?_;refine .nw 4 ?_;refine .nw 5 ?_;refine .nw 6 ?_;refine .nw 7 ?_;refine .nw 8 ?_;refine .nw 9 ?_;refine .nw 10 ?_;refine .nw 11 ?_;refine .nw 12 ?_;refine .nw 13 ?_;refine .nw 14 ?_;refine .nw 15 ?_;refine .nw 16 ?_;refine .nw 17 ?_;refine .nn 18 ?_;refine .dn ?_;refine U7 ?_;exact Tc.db (ih₂ ⟨(j+1,H₂),by simp only;omega,j2⟩ (by simp only;omega))
end
end Go.Proofs.YtldmfjcgjdchcaaGreatDoor
namespace Go.Proofs.YtldmfjcgjdchcaaGreatDoor
open Go.RL Go.Proofs.Tryz
set_option maxRecDepth 10000
def at0(l:List Int)(i:Nat):Int:=l[i]?.getD 0
def swapL(l:List Int)(p q:Nat):List Int:=(l.set p (at0 l q)).set q (at0 l p)
theorem swapL_len(l:List Int)(p q:Nat):(swapL l p q).length=l.length:=by simp[swapL]
theorem swapL_at {l:List Int}{p q:Nat}(hp:p<l.length)(hq:q<l.length)(r:Nat):at0 (swapL l p q) r=if r=q then at0 l p else if r=p then at0 l q else at0 l r:=by
 unfold swapL at0;rw[List.getElem?_set];by_cases h1:q=r
 · subst h1;rw[if_pos rfl,if_pos (by rw[List.length_set];exact hq),if_pos rfl];rfl
 · rw[if_neg h1,if_neg (fun h=> h1 h.symm),List.getElem?_set];by_cases h2:p=r
   · subst h2;rw[if_pos rfl,if_pos hp,if_pos rfl];rfl
   · rw[if_neg h2,if_neg (fun h=> h2 h.symm)]
theorem swapL_count {l:List Int}{p q:Nat}(hp:p<l.length)(hq:q<l.length)(x:Int):(swapL l p q).count x=l.count x:=by
 unfold swapL at0;rw[List.getElem?_eq_getElem hp,List.getElem?_eq_getElem hq];simp only[Option.getD_some];rw[List.count_set (by rw[List.length_set];exact hq),List.count_set hp,List.getElem_set];have h1:∀ {i:Nat} (h:i<l.length),l[i]=x→0<l.count x:=fun h e=> List.count_pos_iff.2 (e▸List.getElem_mem h);by_cases e:p=q
 · subst e;simp only[if_true];by_cases e2:l[p]=x
   · have:=h1 hp e2;simp only[e2,beq_self_eq_true,if_true];omega
   · have e3:(l[p]==x)=false:=by simpa using e2
     simp only[e3,Bool.false_eq_true,if_false];omega
 · simp only[if_neg e];by_cases e2:l[p]=x <;> by_cases e3:l[q]=x
   · have:=h1 hp e2;simp only[e2,e3,beq_self_eq_true,if_true];omega
   · have e4:(l[q]==x)=false:=by simpa using e3
     have:=h1 hp e2;simp only[e2,e4,beq_self_eq_true,if_true,Bool.false_eq_true,if_false];omega
   · have e4:(l[p]==x)=false:=by simpa using e2
     have:=h1 hq e3;simp only[e3,e4,beq_self_eq_true,if_true,Bool.false_eq_true,if_false];omega
   · have e4:(l[p]==x)=false:=by simpa using e2
     have e5:(l[q]==x)=false:=by simpa using e3
     simp only[e4,e5,Bool.false_eq_true,if_false];omega
structure Turned(a b:Nat)(l m:List Int):Prop where
 len:m.length=l.length
 cnt:∀x,m.count x=l.count x
 out:∀i,i<a∨b≤i→at0 m i=at0 l i
theorem Turned.refl(a b:Nat)(l:List Int):Turned a b l l:=⟨rfl,fun _=> rfl,fun _ _=> rfl⟩
theorem Turned.trans {a b:Nat}{l m n:List Int}(h:Turned a b l m)(k:Turned a b m n):Turned a b l n:=⟨k.len.trans h.len,fun x=> (k.cnt x).trans (h.cnt x),fun i hi=> (k.out i hi).trans (h.out i hi)⟩
theorem Turned.wide {a b a' b':Nat}{l m:List Int}(h:Turned a b l m)(h1:a'≤a)(h2:b≤b'):Turned a' b' l m:=⟨h.len,h.cnt,fun i hi=> h.out i (by omega)⟩
theorem Turned.swap {a b:Nat}{l:List Int}{p q:Nat}(hp:p<l.length)(hq:q<l.length)(h1:a≤p∧p<b)(h2:a≤q∧q<b):Turned a b l (swapL l p q):=
 ⟨swapL_len ..,swapL_count hp hq,fun i hi=> by rw[swapL_at hp hq,if_neg (by omega),if_neg (by omega)]⟩
def Srt(a b:Nat)(l:List Int):Prop:=∀p q,a≤p→p<q→q<b→at0 l p≤at0 l q
theorem Turned.mem {a b:Nat}{l m:List Int}(h:Turned a b l m)(x:Int):x∈m↔x∈l:=by
 rw[←List.count_pos_iff,←List.count_pos_iff,h.cnt x]
theorem at0_mem {l:List Int}{p:Nat}(h:p<l.length):at0 l p∈l:=by
 unfold at0;rw[List.getElem?_eq_getElem h];exact List.getElem_mem h
set_option maxHeartbeats 8000000
theorem stL_one(l:List Value)(i:Nat)(v:Value)(h:i<l.length):stL l i [v]=l.set i v:=by
 unfold stL;rw[List.set_eq_take_append_cons_drop,if_pos h];simp
def strsL(dec:Int→List UInt8)(m:List Int):List Value:=m.map fun x=> strV (dec x)
theorem strsL_len(dec:Int→List UInt8)(m:List Int):(strsL dec m).length=m.length:=by simp[strsL]
def Enc(dec:Int→List UInt8)(l:List Int):Prop:=∀x∈l,∀y∈l,Op.bytesLess (dec x) (dec y)=decide (x<y)
theorem Enc.turned {dec:Int→List UInt8}{l m:List Int}{a b:Nat}(h:Enc dec l)(t:Turned a b l m):Enc dec m:=fun x hx y hy=> h x ((t.mem x).1 hx) y ((t.mem y).1 hy)
theorem SymSt_turn {H₀ H H':View}{L:Bl}(h:SymSt H₀ L H){i sb:Nat}{x y:Bool×Obj}(hi:L[i]? =some (sb,x))(h1:∀b z,b≠sb→H b=some z→H' b=some z)(h2:H' sb=some y):SymSt H₀ (L.set i (sb,y)) H':=
 (h.set hi y).mono fun b z hb=> by
   by_cases e:b=sb
   · subst e;rw[View.put_same] at hb;rw[h2,hb]
   · rw[View.put_other _ _ e] at hb;exact h1 b z e hb
def SortSQ(dec:Int→List UInt8)(H:View)(sb:Nat)(j:List Value)(P:Value→List Int→Prop)(v:Value)(H':View):Prop:=
 (∀b x,b≠sb→H b=some x→H' b=some x)∧∃m,P v m∧H' sb=some (true,.cells ⟨(strsL dec m)++j⟩ 9 (0,0))
theorem SortSQ.of {dec:Int→List UInt8}{H H':View}{sb:Nat}{j:List Value}{P:Value→List Int→Prop}{v:Value}{L:Bl}{m:List Int}(hs:SymSt (H.without sb) L H'){i:Nat}(hi:L[i]? =some (sb,true,.cells ⟨(strsL dec m)++j⟩ 9 (0,0)))(hP:P v m):SortSQ dec H sb j P v H':=
 ⟨fun b x hb hx=> hs.base b x (by rw[without_other hb];exact hx),m,hP,hs.get hi⟩
theorem Or.sortsS {dec:Int→List UInt8}{M:Md prog}{n:Nat}{H₀:View}{R:Rg}{L:Bl}{o:Oper}{K:Rg→Bl→Prop}{cl:Go.Call}{x:Operand}{fv:Value}{az:List Value}{d:Nat}(i:Nat){sb:Nat}{l:List Int}{j:List Value}(P:Value→List Int→Prop)
   (hop:o.op=.call cl) (hcl:cl.callee=.value x) (hx:evR R x=some fv) (has:evRs R cl.args.toList=some az) (hd:o.dst=some d) (hn:d<n) (hi:L[i]? =some (sb,true,.cells ⟨(strsL dec l)++j⟩ 9 (0,0)))
   (hc:∀H,SymSt H₀ L H→FnT M fv az H (SortSQ dec H sb j P)) (hk:∀v m,P v m→K ((d,v)::R) (L.set i (sb,true,.cells ⟨(strsL dec m)++j⟩ 9 (0,0)))):Or M n H₀ R L o K:=
 .callV hop hcl hx has (Q:=fun H v H'=> SortSQ dec H sb j P v H') hc fun H v H' hs ⟨h1,m,h2,h3⟩=>
   ⟨_,_,SymSt_turn hs hi h1 h3,by rw[hd];exact⟨hn,rfl⟩,hk v m h2⟩
theorem cellsS_ld {dec:Int→List UInt8}{m:List Int}{j:List Value}{k:Int}{p:Nat}(hk:k=(p:Nat))(hp:p<m.length):ldL false 1 ((strsL dec m)++j) (0+k.toNat*1)=some (strV (dec (at0 m p))):=by
 subst hk;show((strsL dec m)++j)[0+(p:Int).toNat*1]? =_;rw[Nat.zero_add,Nat.mul_one,Int.toNat_natCast,List.getElem?_append_left (by rw[strsL_len];exact hp)];unfold strsL at0;rw[List.getElem?_map,List.getElem?_eq_getElem hp];rfl
theorem cellsS_st {dec:Int→List UInt8}{m:List Int}{j:List Value}{k x:Int}{p:Nat}(hk:k=(p:Nat))(hp:p<m.length):stL ((strsL dec m)++j) (0+k.toNat*1) [strV (dec (x))]=(strsL dec (m.set p x))++j:=by
 subst hk;rw[Nat.zero_add,Nat.mul_one,Int.toNat_natCast,stL_one _ _ _ (by rw[List.length_append,strsL_len];omega),List.set_append_left _ _ (by rw[strsL_len];exact hp)];unfold strsL;rw[List.map_set]
theorem cellsS_le {dec:Int→List UInt8}{m:List Int}{j:List Value}{k:Int}{p:Nat}(hk:k=(p:Nat))(hp:p<m.length):Nat.ble (0+k.toNat*1+1) ((strsL dec m)++j).length=true:=by
 subst hk;rw[Nat.ble_eq,List.length_append,strsL_len,Int.toNat_natCast];omega
section
variable(M:Md prog)(H:View)
theorem isNaNS_c(s:List UInt8):CallT M 306 #[strV s] H (fun v H'=> H.le H'∧v=.bool false):=by
 refine .en func306 ntmps306 fun St c cs hK=> ?_;refine U11 ?_;refine .rt hK func306 results306 [_] ?_;exact fun H' hs=> ⟨hs.base,by simp[packV]⟩
theorem LessS_c(s p:List UInt8):CallT M 262 #[strV s,strV p] H (fun v H'=> H.le H'∧v=.bool (Op.bytesLess s p)):=by
 refine .en func262 ntmps262 fun St c cs hK=> ?_;refine U7 ?_;refine .c rfl rfl rfl rfl (fun H hs=> .h (isNaNS_c M H s)) ?_;refine U12 ?_;refine .rt hK func262 results262 [_] ?_;exact okB
theorem lessS {dec:Int→List UInt8}{l:List Int}(hE:Enc dec l){x y:Int}(hx:x∈l)(hy:y∈l)(t:Bool)(ht:decide (x<y)=t):CallT M 262 #[strV (dec x),strV (dec y)] H (fun v H'=> H.le H'∧v=.bool t):=
 isB (LessS_c M H (dec x) (dec y)) ((hE x hx y hy).trans ht)
end
theorem ins_out {m:List Int}{a i j:Nat}(hg:∀p q,a≤p→p<q→q≤i→q≠j→at0 m p≤at0 m q)(hj:a<j)(hle:¬at0 m j<at0 m (j-1)):Srt a (i+1) m:=fun p q h1 h2 h3=> by
 by_cases e:q=j
 · subst e;have h4:at0 m p≤at0 m (q-1):=by
     by_cases e2:p=q-1
     · rw[e2];exact Int.le_refl _
     · exact hg p (q-1) h1 (by omega) (by omega) (by omega)
   omega
 · exact hg p q h1 h2 (by omega) e
theorem ins_step {m:List Int}{a i j:Nat}(hi:i<m.length)(hji:j≤i)(hg:∀p q,a≤p→p<q→q≤i→q≠j→at0 m p≤at0 m q)(hj:a<j)(hlt:at0 m j<at0 m (j-1)):
   ∀p q,a≤p→p<q→q≤i→q≠j-1→at0 (swapL m j (j-1)) p≤at0 (swapL m j (j-1)) q:=fun p q h1 h2 h3 h4=> by
 rw[swapL_at (by omega) (by omega),swapL_at (by omega) (by omega),if_neg h4];by_cases e:q=j
 · rw[if_pos e];by_cases e2:p=j-1
   · rw[if_pos e2];omega
   · rw[if_neg e2,if_neg (by omega)];exact hg p (j-1) h1 (by omega) (by omega) (by omega)
 · rw[if_neg e];by_cases e2:p=j-1
   · rw[if_pos e2];exact hg j q (by omega) (by omega) h3 e
   · rw[if_neg e2];by_cases e3:p=j
     · rw[if_pos e3];exact hg (j-1) q (by omega) (by omega) h3 e
     · rw[if_neg e3];exact hg p q h1 h2 h3 e
section
variable(M:Md prog)(H:View)
theorem insertionS_c(dec:Int→List UInt8)(sb:Nat)(l:List Int)(jj:List Value)(n cap a b:Nat)(hn:n=l.length)(hE:Enc dec l)(hb:b≤n)(h1000:n≤100000000)(ha:a≤n)(hS:H sb=some (true,.cells ⟨(strsL dec l)++jj⟩ 9 (0,0))):
   CallT M 256 #[.slice (some ⟨sb,0,none⟩) n cap,.int .i64 (a:Nat),.int .i64 (b:Nat)] H (SortSQ dec H sb jj (fun v m=> v=.tuple ⟨[]⟩∧Turned a b l m∧Srt a b m)):=by
 refine CallT.enter (vs:= [.slice (some ⟨sb,0,none⟩) n cap,.int .i64 (a:Nat),.int .i64 (b:Nat)]) func256 rfl ntmps256 (Nat.le_of_ble_eq_true rfl) (SymSt.pull hS) fun St c cs hK=> ?_;have ha1:intBin .add .i64 (a:Nat) 1=some (.int .i64 ((a+1:Nat):Int)):=by rw[add_in (by omega) (by omega)];rfl
 refine U7 ?_;refine Tc.db (Tc.loopInv (σ:= { s:Nat×List Int//a+1≤s.1∧(s.1≤b∨s.1=a+1)∧Turned a b l s.2∧Srt a s.1 s.2 }) (fun s=> ([(0,.slice (some ⟨sb,0,none⟩) n cap),(1,.int .i64 (a:Nat)),(2,.int .i64 (b:Nat)),(6,.int .i64 (s.1.1:Nat))],[(sb,true,.cells ⟨(strsL dec s.1.2)++jj⟩ 9 (0,0))])) (fun s=> b-s.1.1) ?_
   ⟨(a+1,l),by simp,by simp,Turned.refl ..,fun p q h1 h2 h3=> by omega⟩)
 rintro⟨⟨i,m⟩,g1,g2,g3,g4⟩ ih;simp only at g1 g2 g3 g4;show Tc M St _ _ _ _ [(0,.slice (some ⟨sb,0,none⟩) n cap),(1,.int .i64 (a:Nat)),(2,.int .i64 (b:Nat)),(6,.int .i64 (i:Nat))] [(sb,true,.cells ⟨(strsL dec m)++jj⟩ 9 (0,0))] _ _;by_cases c1:i<b
 · have hml:=g3.len;have hi1:intBin .add .i64 (i:Nat) 1=some (.int .i64 ((i+1:Nat):Int)):=by rw[add_in (by omega) (by omega)];rfl
   refine U17 ?_;refine Tc.db (Tc.loopInv (σ:= { s:Nat×List Int//a≤s.1∧s.1≤i∧Turned a b l s.2∧∀p q,a≤p→p<q→q≤i→q≠s.1→at0 s.2 p≤at0 s.2 q }) (fun s=> ([(0,.slice (some ⟨sb,0,none⟩) n cap),(1,.int .i64 (a:Nat)),(2,.int .i64 (b:Nat)),(6,.int .i64 (i:Nat)),(7,.int .i64 (s.1.1:Nat))],[(sb,true,.cells ⟨(strsL dec s.1.2)++jj⟩ 9 (0,0))])) (fun s=> s.1.1) ?_
     ⟨(i,m),by simp only;omega,by simp only;omega,g3,fun p q h1 h2 h3 h4=> g4 p q h1 h2 (by simp only at h4;omega)⟩)
   rintro⟨⟨j,u⟩,f1,f2,f3,f4⟩ ih2;simp only at f1 f2 f3 f4;have hul:=f3.len;have hEu:=hE.turned f3;show Tc M St _ _ _ _ [(0,.slice (some ⟨sb,0,none⟩) n cap),(1,.int .i64 (a:Nat)),(2,.int .i64 (b:Nat)),(6,.int .i64 (i:Nat)),(7,.int .i64 (j:Nat))] [(sb,true,.cells ⟨(strsL dec u)++jj⟩ 9 (0,0))] _ _;by_cases c2:a<j
   · have e1:((j:Nat):Int)-1=((j-1:Nat):Int):=by omega
     have k1:=cellsS_ld (dec:=dec) (m:=u) (j:=jj) (k:=(j:Nat)) (p:=j) rfl (by omega);have k2:=cellsS_ld (dec:=dec) (m:=u) (j:=jj) (k:=(j:Nat)-1) (p:=j-1) e1 (by omega);by_cases c3:at0 u j<at0 u (j-1)
     · have s1:=cellsS_st (dec:=dec) (m:=u) (j:=jj) (k:=(j:Nat)) (x:=at0 u (j-1)) (p:=j) rfl (by omega);have s2:=cellsS_st (dec:=dec) (m:=u.set j (at0 u (j-1))) (j:=jj) (k:=(j:Nat)-1) (x:=at0 u j) (p:=j-1) e1 (by rw[List.length_set];omega);have l1:=cellsS_le (dec:=dec) (m:=u) (j:=jj) (k:=(j:Nat)) (p:=j) rfl (by omega);have l2:=cellsS_le (dec:=dec) (m:=u.set j (at0 u (j-1))) (j:=jj) (k:=(j:Nat)-1) (p:=j-1) e1 (by rw[List.length_set];omega);refine U2 ?_;refine Tc.dr [] [] mixed rfl ?_;refine .nn 0 ?_;refine .nn 1 ?_;refine .nn 2 ?_;refine .nn 3 ?_;refine .nn 4 ?_;refine .nn 5 ?_;refine .nn 6 ?_;refine .nn 7 ?_;refine .nn 8 ?_;refine .nn 9 ?_;refine .nn 10 ?_;refine .nn 11 ?_;refine .nn 12 ?_;refine .z 13 rfl (OpV.takeCall rfl rfl rfl rfl (fun H hs=> .h (lessS M H hEu (at0_mem (by omega)) (at0_mem (by omega)) true (decide_eq_true c3)))) ?_;refine .nn 14 ?_;refine .dn ?_;refine U4 ?_;refine Tc.dr [15,17] [0] mixed rfl ?_;refine .nn 0 ?_;refine .nn 1 ?_;refine .nw 2 ?_;refine .nw 3 ?_;refine .nw 4 ?_;refine .nn 5 ?_;refine .nn 6 ?_;refine .nn 7 ?_;refine .nn 8 ?_;refine .nn 9 ?_;refine .nw 10 ?_;refine .nw 11 ?_;refine .nw 12 ?_;refine .nn 13 ?_;refine .nn 14 ?_;refine .e 15 0 ?_;refine .nw 16 ?_;refine .e 17 0 ?_;refine .dn ?_;refine U6 ?_;rw[e1];exact Tc.db (ih2 ⟨(j-1,swapL u j (j-1)),by simp only;omega,by simp only;omega,f3.trans (Turned.swap (by omega) (by omega) (by omega) (by omega)),ins_step (by omega) f2 f4 c2 c3⟩ (by simp only;omega))
     · refine U2 ?_;refine Tc.dr [] [] mixed rfl ?_;refine .nn 0 ?_;refine .nn 1 ?_;refine .nn 2 ?_;refine .nn 3 ?_;refine .nn 4 ?_;refine .nn 5 ?_;refine .nn 6 ?_;refine .nn 7 ?_;refine .nn 8 ?_;refine .nn 9 ?_;refine .nn 10 ?_;refine .nn 11 ?_;refine .nn 12 ?_;refine .z 13 rfl (OpV.takeCall rfl rfl rfl rfl (fun H hs=> .h (lessS M H hEu (at0_mem (by omega)) (at0_mem (by omega)) false (decide_eq_false c3)))) ?_;refine .nn 14 ?_;refine .dn ?_;refine U8 ?_;exact Tc.db (ih ⟨(i+1,u),by simp only;omega,by simp only;omega,f3,ins_out f4 c2 c3⟩ (by simp only;omega))
   · refine U2 ?_;refine Tc.dr [] [] mixed rfl ?_;refine .nn 0 ?_;refine .nn 1 ?_;refine .nn 2 ?_;refine .nn 3 ?_;refine .nw 4 ?_;refine .nw 5 ?_;refine .nw 6 ?_;refine .nw 7 ?_;refine .nw 8 ?_;refine .nw 9 ?_;refine .nw 10 ?_;refine .nw 11 ?_;refine .nw 12 ?_;refine .nw 13 ?_;refine .nn 14 ?_;refine .dn ?_;refine U8 ?_;exact Tc.db (ih ⟨(i+1,u),by simp only;omega,by simp only;omega,f3,fun p q h1 h2 h3=> f4 p q h1 h2 (by omega) (by omega)⟩ (by simp only;omega))
 · refine U9 ?_;refine .ov hK func256 results256 [] ?_;exact fun H' hs=> SortSQ.of hs (i:=0) rfl ⟨rfl,g3,fun p q h1 h2 h3=> g4 p q h1 h2 (by omega)⟩
end
def intsL(m:List Int):List Value:=m.map fun x=> .int .i64 x
theorem intsL_len(m:List Int):(intsL m).length=m.length:=by simp[intsL]
def SortIQ(H:View)(sb:Nat)(j:List Value)(P:Value→List Int→Prop)(v:Value)(H':View):Prop:=
 (∀b x,b≠sb→H b=some x→H' b=some x)∧∃m,P v m∧H' sb=some (true,.cells ⟨(intsL m)++j⟩ 3 (0,0))
theorem SortIQ.of {H H':View}{sb:Nat}{j:List Value}{P:Value→List Int→Prop}{v:Value}{L:Bl}{m:List Int}(hs:SymSt (H.without sb) L H'){i:Nat}(hi:L[i]? =some (sb,true,.cells ⟨(intsL m)++j⟩ 3 (0,0)))(hP:P v m):SortIQ H sb j P v H':=
 ⟨fun b x hb hx=> hs.base b x (by rw[without_other hb];exact hx),m,hP,hs.get hi⟩
theorem Or.sortsI {M:Md prog}{n:Nat}{H₀:View}{R:Rg}{L:Bl}{o:Oper}{K:Rg→Bl→Prop}{cl:Go.Call}{x:Operand}{fv:Value}{az:List Value}{d:Nat}(i:Nat){sb:Nat}{l:List Int}{j:List Value}(P:Value→List Int→Prop)
   (hop:o.op=.call cl) (hcl:cl.callee=.value x) (hx:evR R x=some fv) (has:evRs R cl.args.toList=some az) (hd:o.dst=some d) (hn:d<n) (hi:L[i]? =some (sb,true,.cells ⟨(intsL l)++j⟩ 3 (0,0)))
   (hc:∀H,SymSt H₀ L H→FnT M fv az H (SortIQ H sb j P)) (hk:∀v m,P v m→K ((d,v)::R) (L.set i (sb,true,.cells ⟨(intsL m)++j⟩ 3 (0,0)))):Or M n H₀ R L o K:=
 .callV hop hcl hx has (Q:=fun H v H'=> SortIQ H sb j P v H') hc fun H v H' hs ⟨h1,m,h2,h3⟩=>
   ⟨_,_,SymSt_turn hs hi h1 h3,by rw[hd];exact⟨hn,rfl⟩,hk v m h2⟩
theorem cellsI_ld {m:List Int}{j:List Value}{k:Int}{p:Nat}(hk:k=(p:Nat))(hp:p<m.length):ldL false 1 ((intsL m)++j) (0+k.toNat*1)=some (.int .i64 (at0 m p)):=by
 subst hk;show((intsL m)++j)[0+(p:Int).toNat*1]? =_;rw[Nat.zero_add,Nat.mul_one,Int.toNat_natCast,List.getElem?_append_left (by rw[intsL_len];exact hp)];unfold intsL at0;rw[List.getElem?_map,List.getElem?_eq_getElem hp];rfl
theorem cellsI_st {m:List Int}{j:List Value}{k x:Int}{p:Nat}(hk:k=(p:Nat))(hp:p<m.length):stL ((intsL m)++j) (0+k.toNat*1) [.int .i64 (x)]=(intsL (m.set p x))++j:=by
 subst hk;rw[Nat.zero_add,Nat.mul_one,Int.toNat_natCast,stL_one _ _ _ (by rw[List.length_append,intsL_len];omega),List.set_append_left _ _ (by rw[intsL_len];exact hp)];unfold intsL;rw[List.map_set]
theorem cellsI_le {m:List Int}{j:List Value}{k:Int}{p:Nat}(hk:k=(p:Nat))(hp:p<m.length):Nat.ble (0+k.toNat*1+1) ((intsL m)++j).length=true:=by
 subst hk;rw[Nat.ble_eq,List.length_append,intsL_len,Int.toNat_natCast];omega
section
variable(M:Md prog)(H:View)
theorem isNaNI_c(s:Int):CallT M 310 #[.int .i64 s] H (fun v H'=> H.le H'∧v=.bool false):=by
 refine .en func310 ntmps310 fun St c cs hK=> ?_;refine U11 ?_;refine .rt hK func310 results310 [_] ?_;exact okB
theorem LessI_c(a b:Int)(t:Bool)(ht:decide (a<b)=t):CallT M 278 #[.int .i64 a,.int .i64 b] H (fun v H'=> H.le H'∧v=.bool t):=by
 rw[←ht];refine .en func278 ntmps278 fun St c cs hK=> ?_;by_cases c1:a<b
 · have e:decide (a<b)=true:=decide_eq_true c1;rw[e] at hK;refine U7 ?_;refine .c rfl rfl rfl rfl (fun H hs=> .h (isNaNI_c M H a)) ?_;refine U12 ?_;refine .rt hK func278 results278 [_] ?_;exact okB
 · have e:decide (a<b)=false:=decide_eq_false c1;rw[e] at hK;refine U7 ?_;refine .c rfl rfl rfl rfl (fun H hs=> .h (isNaNI_c M H a)) ?_;refine U12 ?_;refine .rt hK func278 results278 [_] ?_;exact okB
end
section
variable(M:Md prog)(H:View)
theorem insertionI_c(sb:Nat)(l:List Int)(jj:List Value)(n cap a b:Nat)(hn:n=l.length)(hb:b≤n)(h1000:n≤1000000)(ha:a≤n)(hS:H sb=some (true,.cells ⟨(intsL l)++jj⟩ 3 (0,0))):
   CallT M 272 #[.slice (some ⟨sb,0,none⟩) n cap,.int .i64 (a:Nat),.int .i64 (b:Nat)] H (SortIQ H sb jj (fun v m=> v=.tuple ⟨[]⟩∧Turned a b l m∧Srt a b m)):=by
 refine CallT.enter (vs:= [.slice (some ⟨sb,0,none⟩) n cap,.int .i64 (a:Nat),.int .i64 (b:Nat)]) func272 rfl ntmps272 (Nat.le_of_ble_eq_true rfl) (SymSt.pull hS) fun St c cs hK=> ?_;have ha1:intBin .add .i64 (a:Nat) 1=some (.int .i64 ((a+1:Nat):Int)):=by rw[add_in (by omega) (by omega)];rfl
 refine U7 ?_;refine Tc.db (Tc.loopInv (σ:= { s:Nat×List Int//a+1≤s.1∧(s.1≤b∨s.1=a+1)∧Turned a b l s.2∧Srt a s.1 s.2 }) (fun s=> ([(0,.slice (some ⟨sb,0,none⟩) n cap),(1,.int .i64 (a:Nat)),(2,.int .i64 (b:Nat)),(6,.int .i64 (s.1.1:Nat))],[(sb,true,.cells ⟨(intsL s.1.2)++jj⟩ 3 (0,0))])) (fun s=> b-s.1.1) ?_
   ⟨(a+1,l),by simp,by simp,Turned.refl ..,fun p q h1 h2 h3=> by omega⟩)
 rintro⟨⟨i,m⟩,g1,g2,g3,g4⟩ ih;simp only at g1 g2 g3 g4;show Tc M St _ _ _ _ [(0,.slice (some ⟨sb,0,none⟩) n cap),(1,.int .i64 (a:Nat)),(2,.int .i64 (b:Nat)),(6,.int .i64 (i:Nat))] [(sb,true,.cells ⟨(intsL m)++jj⟩ 3 (0,0))] _ _;by_cases c1:i<b
 · have hml:=g3.len;have hi1:intBin .add .i64 (i:Nat) 1=some (.int .i64 ((i+1:Nat):Int)):=by rw[add_in (by omega) (by omega)];rfl
   refine U17 ?_;refine Tc.db (Tc.loopInv (σ:= { s:Nat×List Int//a≤s.1∧s.1≤i∧Turned a b l s.2∧∀p q,a≤p→p<q→q≤i→q≠s.1→at0 s.2 p≤at0 s.2 q }) (fun s=> ([(0,.slice (some ⟨sb,0,none⟩) n cap),(1,.int .i64 (a:Nat)),(2,.int .i64 (b:Nat)),(6,.int .i64 (i:Nat)),(7,.int .i64 (s.1.1:Nat))],[(sb,true,.cells ⟨(intsL s.1.2)++jj⟩ 3 (0,0))])) (fun s=> s.1.1) ?_
     ⟨(i,m),by simp only;omega,by simp only;omega,g3,fun p q h1 h2 h3 h4=> g4 p q h1 h2 (by simp only at h4;omega)⟩)
   rintro⟨⟨j,u⟩,f1,f2,f3,f4⟩ ih2;simp only at f1 f2 f3 f4;have hul:=f3.len
   
   show Tc M St _ _ _ _ [(0,.slice (some ⟨sb,0,none⟩) n cap),(1,.int .i64 (a:Nat)),(2,.int .i64 (b:Nat)),(6,.int .i64 (i:Nat)),(7,.int .i64 (j:Nat))] [(sb,true,.cells ⟨(intsL u)++jj⟩ 3 (0,0))] _ _;by_cases c2:a<j
   · have e1:((j:Nat):Int)-1=((j-1:Nat):Int):=by omega
     have k1:=cellsI_ld (m:=u) (j:=jj) (k:=(j:Nat)) (p:=j) rfl (by omega);have k2:=cellsI_ld (m:=u) (j:=jj) (k:=(j:Nat)-1) (p:=j-1) e1 (by omega);by_cases c3:at0 u j<at0 u (j-1)
     · have s1:=cellsI_st (m:=u) (j:=jj) (k:=(j:Nat)) (x:=at0 u (j-1)) (p:=j) rfl (by omega);have s2:=cellsI_st (m:=u.set j (at0 u (j-1))) (j:=jj) (k:=(j:Nat)-1) (x:=at0 u j) (p:=j-1) e1 (by rw[List.length_set];omega);have l1:=cellsI_le (m:=u) (j:=jj) (k:=(j:Nat)) (p:=j) rfl (by omega);have l2:=cellsI_le (m:=u.set j (at0 u (j-1))) (j:=jj) (k:=(j:Nat)-1) (p:=j-1) e1 (by rw[List.length_set];omega);refine U2 ?_;refine Tc.dr [] [] mixed rfl ?_;refine .nn 0 ?_;refine .nn 1 ?_;refine .nn 2 ?_;refine .nn 3 ?_;refine .nn 4 ?_;refine .nn 5 ?_;refine .nn 6 ?_;refine .nn 7 ?_;refine .nn 8 ?_;refine .nn 9 ?_;refine .nn 10 ?_;refine .nn 11 ?_;refine .nn 12 ?_;refine .z 13 rfl (OpV.takeCall rfl rfl rfl rfl (fun H hs=> .h (LessI_c M H (at0 u j) (at0 u (j-1)) true (decide_eq_true c3)))) ?_;refine .nn 14 ?_;refine .dn ?_;refine U4 ?_;refine Tc.dr [15,17] [0] mixed rfl ?_;refine .nn 0 ?_;refine .nn 1 ?_;refine .nw 2 ?_;refine .nw 3 ?_;refine .nw 4 ?_;refine .nn 5 ?_;refine .nn 6 ?_;refine .nn 7 ?_;refine .nn 8 ?_;refine .nn 9 ?_;refine .nw 10 ?_;refine .nw 11 ?_;refine .nw 12 ?_;refine .nn 13 ?_;refine .nn 14 ?_;refine .e 15 0 ?_;refine .nw 16 ?_;refine .e 17 0 ?_;refine .dn ?_;refine U6 ?_;rw[e1];exact Tc.db (ih2 ⟨(j-1,swapL u j (j-1)),by simp only;omega,by simp only;omega,f3.trans (Turned.swap (by omega) (by omega) (by omega) (by omega)),ins_step (by omega) f2 f4 c2 c3⟩ (by simp only;omega))
     · refine U2 ?_;refine Tc.dr [] [] mixed rfl ?_;refine .nn 0 ?_;refine .nn 1 ?_;refine .nn 2 ?_;refine .nn 3 ?_;refine .nn 4 ?_;refine .nn 5 ?_;refine .nn 6 ?_;refine .nn 7 ?_;refine .nn 8 ?_;refine .nn 9 ?_;refine .nn 10 ?_;refine .nn 11 ?_;refine .nn 12 ?_;refine .z 13 rfl (OpV.takeCall rfl rfl rfl rfl (fun H hs=> .h (LessI_c M H (at0 u j) (at0 u (j-1)) false (decide_eq_false c3)))) ?_;refine .nn 14 ?_;refine .dn ?_;refine U8 ?_;exact Tc.db (ih ⟨(i+1,u),by simp only;omega,by simp only;omega,f3,ins_out f4 c2 c3⟩ (by simp only;omega))
   · refine U2 ?_;refine Tc.dr [] [] mixed rfl ?_;refine .nn 0 ?_;refine .nn 1 ?_;refine .nn 2 ?_;refine .nn 3 ?_;refine .nw 4 ?_;refine .nw 5 ?_;refine .nw 6 ?_;refine .nw 7 ?_;refine .nw 8 ?_;refine .nw 9 ?_;refine .nw 10 ?_;refine .nw 11 ?_;refine .nw 12 ?_;refine .nw 13 ?_;refine .nn 14 ?_;refine .dn ?_;refine U8 ?_;exact Tc.db (ih ⟨(i+1,u),by simp only;omega,by simp only;omega,f3,fun p q h1 h2 h3=> f4 p q h1 h2 (by omega) (by omega)⟩ (by simp only;omega))
 · refine U9 ?_;refine .ov hK func272 results272 [] ?_;exact fun H' hs=> SortIQ.of hs (i:=0) rfl ⟨rfl,g3,fun p q h1 h2 h3=> g4 p q h1 h2 (by omega)⟩
end
end Go.Proofs.YtldmfjcgjdchcaaGreatDoor
namespace Go.RL
open Go.Conc
section
variable {P:Program}{E:Env P}{M:Md P}{n:Nat}{H₀:View}{R:Rg}{L:Bl}{o:Oper}{K:Rg→Bl→Prop}
theorem Or.clear(i:Nat){cl:Go.Call}{x:Operand}{t e e':TypeId}{q cap blk off:Nat}{z:Value}{c c':List Value}{r re:TyRow}(hop:o.op=.call cl)(hcl:cl.callee=.builtin .clear)(hat:cl.argTypes=#[t])(har:cl.args=#[x])
   (hx:evR R x=some (.slice (some ⟨blk,off,none⟩) q cap)) (ht:E.ty t=some r) (hds:r.ds=.slice e) (hre:E.ty e=some re) (hz:re.zero.cells.toList= [z]) (hz1:single z=true)
   (hi:L[i]? =some (blk,true,.cells ⟨c⟩ e' (0,0))) (hq:q≠0) (hl:off+q≤c.length) (hd:o.dst=none) (hc:stL c off (List.replicate q z)=c')
   (hk:K R (L.set i (blk,true,.cells ⟨c'⟩ e' (0,0)))):Or M n H₀ R L o K:=fun H tmps hst hr=> by
 unfold OpRun;unfold execOp;rw[hop];simp only[resolve,hcl,hat,har];have hm':Array.map (evT tmps) #[x]=#[.slice (some ⟨blk,off,none⟩) q cap]:=by simp[hr.ev hx]
 rw[hm'];obtain⟨q',rfl⟩:∃q',q=q'+1:=⟨q-1,by omega⟩
 refine vwp_bind (Builtin.clear_ #[t] o.type #[.slice (some ⟨blk,off,none⟩) (q'+1) cap]) _ ?_;show vwp P ((underlying t).bind fun _=> _) H _;refine vwp_bind (underlying t) _ (vwp_underlying (ds_slice ((E.ok _ _ ht).ds.trans hds)) ?_);show vwp P ((zeroValue e).bind fun z=> (storeCells ⟨blk,off,none⟩ (Builtin.zeroCells z.cells (q'+1)).toList).bind fun _=> Sem.pure (Value.tuple #[])) H _;refine vwp_bind (zeroValue e) _ (vwp_zeroValue (E.ok _ _ hre).zero ?_);have hzc:(Builtin.zeroCells re.zero.cells (q'+1)).toList=List.replicate (q'+1) z:=by
   have hsz:re.zero.cells.size=1:=by
     have:=congrArg List.length hz;simpa using this
   rw[zeroCells_eq,hz,zeroRow_one,hsz,Nat.mul_one]
 rw[hzc];refine vwp_bind (storeCells _ _) _ ?_;refine vwp_storeCells blk _ (List.replicate (q'+1) z) 0 c (hst.get hi) (by simp only[List.length_replicate,Nat.add_zero];omega) (by rw[List.all_eq_true];intro y hy;rw[List.eq_of_mem_replicate hy];exact hz1) fun H' hH'=> ?_;rw[if_neg (by simp)] at hH';rw[hH'];refine⟨R,_,?_,hst.set hi _,?_⟩
 · rw[hd];exact hr
 · rw[show stL c (off+0) (List.replicate (q'+1) z)=c' from hc];exact hk
end
end Go.RL
namespace Go.Proofs.YtldmfjcgjdchcaaGreatDoor
open Go.RL Go.Proofs.Tryz
set_option maxRecDepth 10000
set_option maxHeartbeats 8000000
def ddTo(l:List Int):Nat→List Int
 | 0=> []
 | k+1=> if 1≤k∧at0 l k=at0 l (k-1) then ddTo l k else ddTo l k++[at0 l k]
theorem ddTo_le(l:List Int):∀k,(ddTo l k).length≤k
 | 0=> Nat.le_refl _
 | k+1=> by
   have:=ddTo_le l k;unfold ddTo;split
   · omega
   · rw[List.length_append,List.length_cons,List.length_nil];omega
theorem take_at0 {l:List Int}{k:Nat}(h:k<l.length):l.take (k+1)=l.take k++[at0 l k]:=by
 unfold at0;rw[List.take_succ_eq_append_getElem h,List.getElem?_eq_getElem h];rfl
theorem take_set_at {u:List Int}{w:Nat}{x:Int}(h:w<u.length):(u.set w x).take (w+1)=u.take w++[x]:=by
 rw[List.take_succ_eq_append_getElem (by rw[List.length_set];exact h),List.take_set_of_le (Nat.le_refl _),List.getElem_set_self]
theorem at0_set {u:List Int}{w p:Nat}{x:Int}(h:w≠p):at0 (u.set w x) p=at0 u p:=by
 unfold at0;rw[List.getElem?_set_ne h]
theorem less_irr:∀s:List UInt8,Op.bytesLess s s=false
 | []=> rfl
 | a::t=> by
   show(decide (a<a)||(a==a&&Op.bytesLess t t))=false;rw[less_irr t];have:¬a<a:=UInt8.lt_irrefl a;simp[this]
theorem Enc.inj {dec:Int→List UInt8}{l:List Int}(h:Enc dec l){x y:Int}(hx:x∈l)(hy:y∈l)(e:dec x=dec y):x=y:=by
 have h1:=h x hx y hy;have h2:=h y hy x hx;rw[e,less_irr] at h1;rw[e,less_irr] at h2;have h3:=of_decide_eq_false h1.symm;have h4:=of_decide_eq_false h2.symm;omega
theorem cellsS_at {dec:Int→List UInt8}{m:List Int}{j:List Value}{k:Int}{o p:Nat}(hk:o+k.toNat*1=p)(hp:p<m.length):ldL false 1 ((strsL dec m)++j) (o+k.toNat*1)=some (strV (dec (at0 m p))):=by
 rw[hk];have:=cellsS_ld (dec:=dec) (m:=m) (j:=j) (k:=(p:Nat)) (p:=p) rfl hp;rw[Int.toNat_natCast,Nat.zero_add,Nat.mul_one] at this;exact this
def CompSQ(dec:Int→List UInt8)(H:View)(sb:Nat)(l:List Int)(jj:List Value)(n cap:Nat)(v:Value)(H':View):Prop:=
 (∀b x,b≠sb→H b=some x→H' b=some x)∧∃rest,v=.slice (some ⟨sb,0,none⟩) (ddTo l n).length cap∧(ddTo l n).length+rest.length=n+jj.length∧H' sb=some (true,.cells ⟨(strsL dec (ddTo l n))++rest⟩ 9 (0,0))
section
variable(M:Md prog)(H:View)
theorem CompactS_c(dec:Int→List UInt8)(sb:Nat)(l:List Int)(jj:List Value)(n cap:Nat)(hn:n=l.length)(hE:Enc dec l)(h1000:n≤100000000)(hcap:n≤cap)(hS:H sb=some (true,.cells ⟨(strsL dec l)++jj⟩ 9 (0,0))):
   CallT M 121 #[.slice (some ⟨sb,0,none⟩) n cap] H (CompSQ dec H sb l jj n cap):=by
 by_cases c0:n<2
 · have e:ddTo l n=l:=by
     rcases(by omega:n=0∨n=1) with h|h
     · have:l= []:=List.eq_nil_of_length_eq_zero (by omega);rw[h,this];rfl
     · rw[h]
       match l,hn.symm.trans h with
       | [x],_=> rfl
   refine CallT.enter (vs:= [.slice (some ⟨sb,0,none⟩) n cap]) func121 rfl ntmps121 (Nat.le_of_ble_eq_true rfl) (SymSt.pull hS) fun St c cs hK=> ?_;refine U17 ?_;refine .rt hK func121 results121 [_] ?_;refine fun H' hs=> ⟨fun b x hb hx=> hs.base b x (by rw[without_other hb];exact hx),jj,?_,?_,?_⟩
   · rw[e,←hn];rfl
   · rw[e,←hn]
   · rw[e];exact hs.get (i:=0) rfl
 · refine CallT.enter (vs:= [.slice (some ⟨sb,0,none⟩) n cap]) func121 rfl ntmps121 (Nat.le_of_ble_eq_true rfl) (SymSt.pull hS) fun St c cs hK=> ?_;refine U19 ?_;refine Tc.db (Tc.loopInv (σ:= { i:Nat//1≤i∧i≤n∧ddTo l i=l.take i }) (fun i=> ([(0,.slice (some ⟨sb,0,none⟩) n cap),(3,.int .i64 (i.1:Nat))],[(sb,true,.cells ⟨(strsL dec l)++jj⟩ 9 (0,0))])) (fun i=> n-i.1) ?_ ⟨1,Nat.le_refl _,by omega,?_⟩)
   · rintro ⟨i,g1,g2,g3⟩ ih;show Tc M St _ _ _ _ [(0,.slice (some ⟨sb,0,none⟩) n cap),(3,.int .i64 (i:Nat))] [(sb,true,.cells ⟨(strsL dec l)++jj⟩ 9 (0,0))] _ _;by_cases c1:i=n
     · have e:ddTo l n=l:=by rw[←c1,g3,c1,hn,List.take_length]
       subst c1;refine U15 ?_;refine .rt hK func121 results121 [_] ?_;refine fun H' hs=> ⟨fun b x hb hx=> hs.base b x (by rw[without_other hb];exact hx),jj,?_,?_,?_⟩
       · rw[e,←hn];rfl
       · rw[e,←hn]
       · rw[e];exact hs.get (i:=0) rfl
     · have c2 :i<n:=by omega
       have e1:((i:Nat):Int)-1=((i-1:Nat):Int):=by omega
       have k1:=cellsS_at (dec:=dec) (m:=l) (j:=jj) (o:=0) (k:=(i:Nat)) (p:=i) (by omega) (by omega);have k2:=cellsS_at (dec:=dec) (m:=l) (j:=jj) (o:=0) (k:=(i:Nat)-1) (p:=i-1) (by omega) (by omega);by_cases c3:at0 l i=at0 l (i-1)
       · have c4:RL.strB .eql (dec (at0 l i)) (dec (at0 l (i-1)))=some (.bool true):=by rw[c3];simp[RL.strB]
         have hdi:ddTo l (i+1)=l.take i:=by rw[ddTo,if_pos ⟨g1,c3⟩,g3]
         have hlt:(l.take i).length=i:=by rw[List.length_take];omega
         refine U13 ?_;refine Tc.dr [] [] mixed rfl ?_;refine .nn 0 ?_;refine .nn 1 ?_;refine .nn 2 ?_;refine .nn 3 ?_;refine .nn 4 ?_;refine .nn 5 ?_;refine .nn 6 ?_;refine .nn 7 ?_;refine .nn 8 ?_;refine .nn 9 ?_;refine .dn ?_;refine U5 ?_;refine .x (OpV.slice (E:=en) (off':=0+((i:Nat):Int).toNat*1) rfl rfl rfl rfl rfl rfl rfl rfl (by omega) (by omega) (by omega) (by rw[if_neg (by omega)] <;> rfl)) ?_;refine U8 ?_;refine Tc.db (Tc.loopInv (σ:= { s:Nat×Nat×List Int//1≤s.2.1∧s.2.1≤n-i∧s.2.2.length=n∧s.1+1≤i+s.2.1∧s.1=(ddTo l (i+s.2.1)).length∧s.2.2.take s.1=ddTo l (i+s.2.1)∧∀p,i+s.2.1≤p+1→at0 s.2.2 p=at0 l p })
           (fun s=> ([(0,.slice (some ⟨sb,0,none⟩) n cap),(3,.int .i64 (s.1.1:Nat)),(4,.slice (some ⟨sb,0+((i:Nat):Int).toNat*1,none⟩) (((n:Nat):Int).toNat-((i:Nat):Int).toNat) (cap-((i:Nat):Int).toNat)),(5,.int .i64 (s.1.2.1:Nat))],[(sb,true,.cells ⟨(strsL dec s.1.2.2)++jj⟩ 9 (0,0))])) (fun s=> n-s.1.2.1) ?_
           ⟨(i,1,l),by simp only;omega,by simp only;omega,hn.symm,by simp only;omega,by simp only;rw[hdi,hlt],by simp only;rw[hdi],fun p _=> rfl⟩)
         rintro⟨⟨v2,k,u⟩,h1,h2,h3,h4,h5,h6,h7⟩ ih2;simp only at h1 h2 h3 h4 h5 h6 h7;show Tc M St _ _ _ _ [(0,.slice (some ⟨sb,0,none⟩) n cap),(3,.int .i64 (v2:Nat)),(4,.slice (some ⟨sb,0+((i:Nat):Int).toNat*1,none⟩) (((n:Nat):Int).toNat-((i:Nat):Int).toNat) (cap-((i:Nat):Int).toNat)),(5,.int .i64 (k:Nat))] [(sb,true,.cells ⟨(strsL dec u)++jj⟩ 9 (0,0))] _ _;have hin:((n:Nat):Int).toNat-((i:Nat):Int).toNat=n-i:=by omega
         rw[hin];by_cases d1:k=n-i
         · have e5:i+k=n:=by omega
           rw[e5] at h5 h6 h4;have hul:u.length=n:=h3;have hq0:((n:Nat):Int).toNat-((v2:Nat):Int).toNat=n-v2:=by omega
           refine U14 ?_;refine .x (OpV.slice (E:=en) (off':=0+((v2:Nat):Int).toNat*1) rfl rfl rfl rfl rfl rfl rfl rfl (by omega) (by omega) (by omega) (by rw[if_neg (by omega)] <;> rfl)) ?_;refine .e (Or.clear (E:=en) (c':=(strsL dec (ddTo l n))++(List.replicate (n-v2) (strV [])++jj)) 0 rfl rfl rfl rfl rfl rfl rfl rfl rfl rfl rfl (by omega) ?_ rfl ?_ ?_)
           · rw[List.length_append,strsL_len];omega
           · show stL ((strsL dec u)++jj) (0+((v2:Nat):Int).toNat*1) (List.replicate (((n:Nat):Int).toNat-((v2:Nat):Int).toNat) (strV []))=_;rw[hq0,Nat.zero_add,Int.toNat_natCast,Nat.mul_one];have e6:u=ddTo l n++u.drop v2:=by rw[←h6,List.take_append_drop]
             have e7:(strsL dec u)=(strsL dec (ddTo l n))++(strsL dec (u.drop v2)):=by
               have h:=congrArg (fun x=> (strsL dec x)) e6;refine h.trans ?_;show(strsL dec (ddTo l n++u.drop v2))=_;unfold strsL;rw[List.map_append]
             have e8:(strsL dec (ddTo l n)).length=v2:=by rw[strsL_len,←h5]
             have e9:(strsL dec (u.drop v2)).length=n-v2:=by rw[strsL_len,List.length_drop,hul]
             rw[e7,List.append_assoc];unfold stL;rw[List.take_left' e8,List.length_replicate,←List.drop_drop,List.drop_left' e8,List.drop_left' e9];simp only[List.append_assoc]
           · refine U5 ?_;refine .x (OpV.sliceTo (E:=en) (k:=v2) rfl rfl rfl rfl rfl rfl (by omega) (by omega)) ?_;refine U2 ?_;refine .rt hK func121 results121 [_] ?_;refine fun H' hs=> ⟨fun b x hb hx=> hs.base b x (by rw[without_other hb];exact hx),List.replicate (n-v2) (strV [])++jj,?_,?_,?_⟩
             · rw[←h5];rfl
             · rw[List.length_append,List.length_replicate];omega
             · exact hs.get (i:=0) rfl
         · have d2:i+k<n:=by omega
           have e2:((k:Nat):Int)-1=((k-1:Nat):Int):=by omega
           have k3:=cellsS_at (dec:=dec) (m:=u) (j:=jj) (o:=0+((i:Nat):Int).toNat*1) (k:=(k:Nat)) (p:=i+k) (by omega) (by omega);have k4:=cellsS_at (dec:=dec) (m:=u) (j:=jj) (o:=0+((i:Nat):Int).toNat*1) (k:=(k:Nat)-1) (p:=i+k-1) (by omega) (by omega);have a1:=h7 (i+k) (by omega);have a2:=h7 (i+k-1) (by omega);by_cases d3:at0 l (i+k)=at0 l (i+k-1)
           · have c5:RL.strB .neq (dec (at0 u (i+k))) (dec (at0 u (i+k-1)))=some (.bool false):=by rw[a1,a2,d3];simp[RL.strB]
             have hdk:ddTo l (i+(k+1))=ddTo l (i+k):=by show ddTo l (i+k+1)=_;rw[ddTo,if_pos ⟨by omega,d3⟩]
             refine U13 ?_;refine Tc.dr [] [] mixed rfl ?_;refine .nn 0 ?_;refine .nn 1 ?_;refine .nn 2 ?_;refine .nn 3 ?_;refine .nn 4 ?_;refine .nn 5 ?_;refine .nn 6 ?_;refine .nn 7 ?_;refine .nn 8 ?_;refine .nn 9 ?_;refine .dn ?_;refine U8 ?_;exact Tc.db (ih2 ⟨(v2,k+1,u),by simp only;omega,by simp only;omega,h3,by simp only;omega,by simp only;rw[hdk];exact h5,by simp only;rw[hdk];exact h6,fun p hp=> h7 p (by simp only at hp;omega)⟩ (by simp only;omega))
           · have c5:RL.strB .neq (dec (at0 u (i+k))) (dec (at0 u (i+k-1)))=some (.bool true):=by rw[a1,a2];have:¬dec (at0 l (i+k))=dec (at0 l (i+k-1)):=fun h=> d3 (hE.inj (at0_mem (by omega)) (at0_mem (by omega)) h);simp[RL.strB,this]
             have hdk:ddTo l (i+(k+1))=ddTo l (i+k)++[at0 l (i+k)]:=by show ddTo l (i+k+1)=_;rw[ddTo,if_neg (fun h=> d3 h.2)]
             have s1:=cellsS_st (dec:=dec) (m:=u) (j:=jj) (k:=(v2:Nat)) (x:=at0 u (i+k)) (p:=v2) rfl (by omega);have l1:=cellsS_le (dec:=dec) (m:=u) (j:=jj) (k:=(v2:Nat)) (p:=v2) rfl (by omega);refine U13 ?_;refine Tc.dr [] [] mixed rfl ?_;refine .nn 0 ?_;refine .nn 1 ?_;refine .nn 2 ?_;refine .nn 3 ?_;refine .nn 4 ?_;refine .nn 5 ?_;refine .nn 6 ?_;refine .nn 7 ?_;refine .nn 8 ?_;refine .nn 9 ?_;refine .dn ?_;refine U23 ?_;exact Tc.db (ih2 ⟨(v2+1,k+1,u.set v2 (at0 u (i+k))),by simp only;omega,by simp only;omega,by simp only;rw[List.length_set];exact h3,by simp only;omega,by simp only;rw[hdk,List.length_append,←h5];rfl,by simp only;rw[hdk,take_set_at (by omega),h6,a1],fun p hp=> by simp only at hp ⊢;rw[at0_set (by omega)];exact h7 p (by omega)⟩ (by simp only;omega))
       · have c4:RL.strB .eql (dec (at0 l i)) (dec (at0 l (i-1)))=some (.bool false):=by have:¬dec (at0 l i)=dec (at0 l (i-1)):=fun h=> c3 (hE.inj (at0_mem (by omega)) (at0_mem (by omega)) h);simp[RL.strB,this]
         refine U13 ?_;refine Tc.dr [] [] mixed rfl ?_;refine .nn 0 ?_;refine .nn 1 ?_;refine .nn 2 ?_;refine .nn 3 ?_;refine .nn 4 ?_;refine .nn 5 ?_;refine .nn 6 ?_;refine .nn 7 ?_;refine .nn 8 ?_;refine .nn 9 ?_;refine .dn ?_;refine U8 ?_;exact Tc.db (ih ⟨i+1,by omega,by omega,by rw[ddTo,if_neg (fun h=> c3 h.2),g3,take_at0 (by omega)]⟩ (by simp only;omega))
   · rw[take_at0 (l:=l) (k:=0) (by omega)];rfl
end
theorem cellsI_at {m:List Int}{j:List Value}{k:Int}{o p:Nat}(hk:o+k.toNat*1=p)(hp:p<m.length):ldL false 1 ((intsL m)++j) (o+k.toNat*1)=some (.int .i64 (at0 m p)):=by
 rw[hk];have:=cellsI_ld (m:=m) (j:=j) (k:=(p:Nat)) (p:=p) rfl hp;rw[Int.toNat_natCast,Nat.zero_add,Nat.mul_one] at this;exact this
def CompIQ(H:View)(sb:Nat)(l:List Int)(jj:List Value)(n cap:Nat)(v:Value)(H':View):Prop:=
 (∀b x,b≠sb→H b=some x→H' b=some x)∧∃rest,v=.slice (some ⟨sb,0,none⟩) (ddTo l n).length cap∧(ddTo l n).length+rest.length=n+jj.length∧H' sb=some (true,.cells ⟨(intsL (ddTo l n))++rest⟩ 3 (0,0))
section
variable(M:Md prog)(H:View)
theorem CompactI_c(sb:Nat)(l:List Int)(jj:List Value)(n cap:Nat)(hn:n=l.length)(h1000:n≤1000000)(hcap:n≤cap)(hS:H sb=some (true,.cells ⟨(intsL l)++jj⟩ 3 (0,0))):
   CallT M 136 #[.slice (some ⟨sb,0,none⟩) n cap] H (CompIQ H sb l jj n cap):=by
 by_cases c0:n<2
 · have e:ddTo l n=l:=by
     rcases(by omega:n=0∨n=1) with h|h
     · have:l= []:=List.eq_nil_of_length_eq_zero (by omega);rw[h,this];rfl
     · rw[h]
       match l,hn.symm.trans h with
       | [x],_=> rfl
   refine CallT.enter (vs:= [.slice (some ⟨sb,0,none⟩) n cap]) func136 rfl ntmps136 (Nat.le_of_ble_eq_true rfl) (SymSt.pull hS) fun St c cs hK=> ?_;refine U17 ?_;refine .rt hK func136 results136 [_] ?_;refine fun H' hs=> ⟨fun b x hb hx=> hs.base b x (by rw[without_other hb];exact hx),jj,?_,?_,?_⟩
   · rw[e,←hn];rfl
   · rw[e,←hn]
   · rw[e];exact hs.get (i:=0) rfl
 · refine CallT.enter (vs:= [.slice (some ⟨sb,0,none⟩) n cap]) func136 rfl ntmps136 (Nat.le_of_ble_eq_true rfl) (SymSt.pull hS) fun St c cs hK=> ?_;refine U19 ?_;refine Tc.db (Tc.loopInv (σ:= { i:Nat//1≤i∧i≤n∧ddTo l i=l.take i }) (fun i=> ([(0,.slice (some ⟨sb,0,none⟩) n cap),(3,.int .i64 (i.1:Nat))],[(sb,true,.cells ⟨(intsL l)++jj⟩ 3 (0,0))])) (fun i=> n-i.1) ?_ ⟨1,Nat.le_refl _,by omega,?_⟩)
   · rintro ⟨i,g1,g2,g3⟩ ih;show Tc M St _ _ _ _ [(0,.slice (some ⟨sb,0,none⟩) n cap),(3,.int .i64 (i:Nat))] [(sb,true,.cells ⟨(intsL l)++jj⟩ 3 (0,0))] _ _;by_cases c1:i=n
     · have e:ddTo l n=l:=by rw[←c1,g3,c1,hn,List.take_length]
       subst c1;refine U15 ?_;refine .rt hK func136 results136 [_] ?_;refine fun H' hs=> ⟨fun b x hb hx=> hs.base b x (by rw[without_other hb];exact hx),jj,?_,?_,?_⟩
       · rw[e,←hn];rfl
       · rw[e,←hn]
       · rw[e];exact hs.get (i:=0) rfl
     · have c2 :i<n:=by omega
       have e1:((i:Nat):Int)-1=((i-1:Nat):Int):=by omega
       have k1:=cellsI_at (m:=l) (j:=jj) (o:=0) (k:=(i:Nat)) (p:=i) (by omega) (by omega);have k2:=cellsI_at (m:=l) (j:=jj) (o:=0) (k:=(i:Nat)-1) (p:=i-1) (by omega) (by omega);by_cases c3:at0 l i=at0 l (i-1)
       · skip
         have hdi:ddTo l (i+1)=l.take i:=by rw[ddTo,if_pos ⟨g1,c3⟩,g3]
         have hlt:(l.take i).length=i:=by rw[List.length_take];omega
         refine U13 ?_;refine Tc.dr [] [] mixed rfl ?_;refine .nn 0 ?_;refine .nn 1 ?_;refine .nn 2 ?_;refine .nn 3 ?_;refine .nn 4 ?_;refine .nn 5 ?_;refine .nn 6 ?_;refine .nn 7 ?_;refine .nn 8 ?_;refine .nn 9 ?_;refine .dn ?_;refine U5 ?_;refine .x (OpV.slice (E:=en) (off':=0+((i:Nat):Int).toNat*1) rfl rfl rfl rfl rfl rfl rfl rfl (by omega) (by omega) (by omega) (by rw[if_neg (by omega)] <;> rfl)) ?_;refine U8 ?_;refine Tc.db (Tc.loopInv (σ:= { s:Nat×Nat×List Int//1≤s.2.1∧s.2.1≤n-i∧s.2.2.length=n∧s.1+1≤i+s.2.1∧s.1=(ddTo l (i+s.2.1)).length∧s.2.2.take s.1=ddTo l (i+s.2.1)∧∀p,i+s.2.1≤p+1→at0 s.2.2 p=at0 l p })
           (fun s=> ([(0,.slice (some ⟨sb,0,none⟩) n cap),(3,.int .i64 (s.1.1:Nat)),(4,.slice (some ⟨sb,0+((i:Nat):Int).toNat*1,none⟩) (((n:Nat):Int).toNat-((i:Nat):Int).toNat) (cap-((i:Nat):Int).toNat)),(5,.int .i64 (s.1.2.1:Nat))],[(sb,true,.cells ⟨(intsL s.1.2.2)++jj⟩ 3 (0,0))])) (fun s=> n-s.1.2.1) ?_
           ⟨(i,1,l),by simp only;omega,by simp only;omega,hn.symm,by simp only;omega,by simp only;rw[hdi,hlt],by simp only;rw[hdi],fun p _=> rfl⟩)
         rintro⟨⟨v2,k,u⟩,h1,h2,h3,h4,h5,h6,h7⟩ ih2;simp only at h1 h2 h3 h4 h5 h6 h7;show Tc M St _ _ _ _ [(0,.slice (some ⟨sb,0,none⟩) n cap),(3,.int .i64 (v2:Nat)),(4,.slice (some ⟨sb,0+((i:Nat):Int).toNat*1,none⟩) (((n:Nat):Int).toNat-((i:Nat):Int).toNat) (cap-((i:Nat):Int).toNat)),(5,.int .i64 (k:Nat))] [(sb,true,.cells ⟨(intsL u)++jj⟩ 3 (0,0))] _ _;have hin:((n:Nat):Int).toNat-((i:Nat):Int).toNat=n-i:=by omega
         rw[hin];by_cases d1:k=n-i
         · have e5:i+k=n:=by omega
           rw[e5] at h5 h6 h4;have hul:u.length=n:=h3;have hq0:((n:Nat):Int).toNat-((v2:Nat):Int).toNat=n-v2:=by omega
           refine U14 ?_;refine .x (OpV.slice (E:=en) (off':=0+((v2:Nat):Int).toNat*1) rfl rfl rfl rfl rfl rfl rfl rfl (by omega) (by omega) (by omega) (by rw[if_neg (by omega)] <;> rfl)) ?_;refine .e (Or.clear (E:=en) (c':=(intsL (ddTo l n))++(List.replicate (n-v2) (.int .i64 0)++jj)) 0 rfl rfl rfl rfl rfl rfl rfl rfl rfl rfl rfl (by omega) ?_ rfl ?_ ?_)
           · rw[List.length_append,intsL_len];omega
           · show stL ((intsL u)++jj) (0+((v2:Nat):Int).toNat*1) (List.replicate (((n:Nat):Int).toNat-((v2:Nat):Int).toNat) (.int .i64 0))=_;rw[hq0,Nat.zero_add,Int.toNat_natCast,Nat.mul_one];have e6:u=ddTo l n++u.drop v2:=by rw[←h6,List.take_append_drop]
             have e7:(intsL u)=(intsL (ddTo l n))++(intsL (u.drop v2)):=by
               have h:=congrArg (fun x=> (intsL x)) e6;refine h.trans ?_;show(intsL (ddTo l n++u.drop v2))=_;unfold intsL;rw[List.map_append]
             have e8:(intsL (ddTo l n)).length=v2:=by rw[intsL_len,←h5]
             have e9:(intsL (u.drop v2)).length=n-v2:=by rw[intsL_len,List.length_drop,hul]
             rw[e7,List.append_assoc];unfold stL;rw[List.take_left' e8,List.length_replicate,←List.drop_drop,List.drop_left' e8,List.drop_left' e9];simp only[List.append_assoc]
           · refine U5 ?_;refine .x (OpV.sliceTo (E:=en) (k:=v2) rfl rfl rfl rfl rfl rfl (by omega) (by omega)) ?_;refine U2 ?_;refine .rt hK func136 results136 [_] ?_;refine fun H' hs=> ⟨fun b x hb hx=> hs.base b x (by rw[without_other hb];exact hx),List.replicate (n-v2) (.int .i64 0)++jj,?_,?_,?_⟩
             · rw[←h5];rfl
             · rw[List.length_append,List.length_replicate];omega
             · exact hs.get (i:=0) rfl
         · have d2:i+k<n:=by omega
           have e2:((k:Nat):Int)-1=((k-1:Nat):Int):=by omega
           have k3:=cellsI_at (m:=u) (j:=jj) (o:=0+((i:Nat):Int).toNat*1) (k:=(k:Nat)) (p:=i+k) (by omega) (by omega);have k4:=cellsI_at (m:=u) (j:=jj) (o:=0+((i:Nat):Int).toNat*1) (k:=(k:Nat)-1) (p:=i+k-1) (by omega) (by omega);have a1:=h7 (i+k) (by omega);have a2:=h7 (i+k-1) (by omega);by_cases d3:at0 l (i+k)=at0 l (i+k-1)
           · have a3:at0 u (i+k)=at0 u (i+k-1):=by rw[a1,a2,d3]
             have hdk:ddTo l (i+(k+1))=ddTo l (i+k):=by show ddTo l (i+k+1)=_;rw[ddTo,if_pos ⟨by omega,d3⟩]
             refine U13 ?_;refine Tc.dr [] [] mixed rfl ?_;refine .nn 0 ?_;refine .nn 1 ?_;refine .nn 2 ?_;refine .nn 3 ?_;refine .nn 4 ?_;refine .nn 5 ?_;refine .nn 6 ?_;refine .nn 7 ?_;refine .nn 8 ?_;refine .nn 9 ?_;refine .dn ?_;refine U8 ?_;exact Tc.db (ih2 ⟨(v2,k+1,u),by simp only;omega,by simp only;omega,h3,by simp only;omega,by simp only;rw[hdk];exact h5,by simp only;rw[hdk];exact h6,fun p hp=> h7 p (by simp only at hp;omega)⟩ (by simp only;omega))
           · have a3:¬at0 u (i+k)=at0 u (i+k-1):=by rw[a1,a2];exact d3
             have hdk:ddTo l (i+(k+1))=ddTo l (i+k)++[at0 l (i+k)]:=by show ddTo l (i+k+1)=_;rw[ddTo,if_neg (fun h=> d3 h.2)]
             have s1:=cellsI_st (m:=u) (j:=jj) (k:=(v2:Nat)) (x:=at0 u (i+k)) (p:=v2) rfl (by omega);have l1:=cellsI_le (m:=u) (j:=jj) (k:=(v2:Nat)) (p:=v2) rfl (by omega);refine U13 ?_;refine Tc.dr [] [] mixed rfl ?_;refine .nn 0 ?_;refine .nn 1 ?_;refine .nn 2 ?_;refine .nn 3 ?_;refine .nn 4 ?_;refine .nn 5 ?_;refine .nn 6 ?_;refine .nn 7 ?_;refine .nn 8 ?_;refine .nn 9 ?_;refine .dn ?_;refine U23 ?_;exact Tc.db (ih2 ⟨(v2+1,k+1,u.set v2 (at0 u (i+k))),by simp only;omega,by simp only;omega,by simp only;rw[List.length_set];exact h3,by simp only;omega,by simp only;rw[hdk,List.length_append,←h5];rfl,by simp only;rw[hdk,take_set_at (by omega),h6,a1],fun p hp=> by simp only at hp ⊢;rw[at0_set (by omega)];exact h7 p (by omega)⟩ (by simp only;omega))
       · skip
         refine U13 ?_;refine Tc.dr [] [] mixed rfl ?_;refine .nn 0 ?_;refine .nn 1 ?_;refine .nn 2 ?_;refine .nn 3 ?_;refine .nn 4 ?_;refine .nn 5 ?_;refine .nn 6 ?_;refine .nn 7 ?_;refine .nn 8 ?_;refine .nn 9 ?_;refine .dn ?_;refine U8 ?_;exact Tc.db (ih ⟨i+1,by omega,by omega,by rw[ddTo,if_neg (fun h=> c3 h.2),g3,take_at0 (by omega)]⟩ (by simp only;omega))
   · rw[take_at0 (l:=l) (k:=0) (by omega)];rfl
end
def bl(x:Nat):Nat:=if x=0 then 0 else Nat.log2 x+1
theorem bl_u8:∀x:Nat,x<64→(UInt8.ofNat (bl x)).toNat=bl x∧bl x≤6∧x<2 ^ bl x∧2 ^ bl x≤2*x+1:=by decide +kernel
theorem u8_wrap:∀x:Nat,x<64→IntKind.u8.wrap (x:Int)=(x:Int):=by decide +kernel
section
variable(M:Md prog)(H:View)
theorem Len64_c(x:Nat)(hx:x<64):CallT M 266 #[.int .u64 (x:Nat)] H (fun v H'=> H.le H'∧v=.int .i64 (bl x:Nat)):=by
 obtain⟨b1,b2,_,_⟩:=bl_u8 x hx;have hw:=u8_wrap x hx;have hw2:IntKind.i64.wrap (((UInt8.ofNat (bl x)).toNat:Nat):Int)=((bl x:Nat):Int):=by rw[b1];exact wrap64 (by omega) (by omega)
 have hadd:intBin .add .i64 0 ((bl x:Nat):Int)=some (.int .i64 ((bl x:Nat):Int)):=by rw[add_in (by omega) (by omega),Int.zero_add]
 refine .en func266 ntmps266 fun St c cs hK=> ?_;refine U33 ?_;refine .x (OpV.indexStr (c:=UInt8.ofNat (bl x)) rfl rfl rfl (ds_str ((en.ok _ _ (show en.ty 9=some _ from rfl)).ds.trans rfl)) (by omega) (by
   rw[Int.toNat_natCast];exact(fun(s:ByteArray) (h:∀y:Nat,y<64→s[y]? =some (UInt8.ofNat (bl y)))=> h x hx) _ (by decide +kernel))) ?_
 refine .x (OpV.convE (E:=en) rfl rfl rfl rfl rfl rfl hw2) ?_;refine .i ?_ (z:=hadd);refine U2 ?_;refine .rt hK func266 results266 [_] ?_;exact okB
theorem Len_c(x:Nat)(hx:x<64):CallT M 197 #[.int .u64 (x:Nat)] H (fun v H'=> H.le H'∧v=.int .i64 (bl x:Nat)):=by
 refine .en func197 ntmps197 fun St c cs hK=> ?_;refine U10 ?_;refine .c rfl rfl rfl rfl (fun H hs=> .h (Len64_c M H x hx)) ?_;refine U2 ?_;refine .rt hK func197 results197 [_] ?_;exact okB
end
theorem u64_12:∀x:Nat,x<64→IntKind.u64.wrap (x:Int)=(x:Int):=by decide +kernel
section
variable(M:Md prog)(H:View)
theorem pdqS_c(dec:Int→List UInt8)(sb:Nat)(l:List Int)(jj:List Value)(n cap:Nat)(lim:Int)(hn:n=l.length)(hE:Enc dec l)(h12:n≤12)(hS:H sb=some (true,.cells ⟨(strsL dec l)++jj⟩ 9 (0,0))):
   CallT M 196 #[.slice (some ⟨sb,0,none⟩) n cap,.int .i64 0,.int .i64 (n:Nat),.int .i64 lim] H (SortSQ dec H sb jj (fun v m=> v=.tuple ⟨[]⟩∧Turned 0 n l m∧Srt 0 n m)):=by
 refine CallT.enter (vs:= [.slice (some ⟨sb,0,none⟩) n cap,.int .i64 0,.int .i64 (n:Nat),.int .i64 lim]) func196 rfl ntmps196 (Nat.le_of_ble_eq_true rfl) (SymSt.pull hS) fun St c cs hK=> ?_;refine U7 ?_;refine .done (.block (.loop (.block (.sr ?_))));refine U17 ?_;refine .e (Or.sortsS (dec:=dec) (l:=l) 0 (fun v m=> v=.tuple ⟨[]⟩∧Turned 0 n l m∧Srt 0 n m) rfl rfl rfl rfl rfl (by decide) rfl (fun H hs=> .h (insertionS_c M H dec sb l jj n cap 0 n hn hE (by omega) (by omega) (by omega) (hs.get (i:=0) rfl))) (fun v m hm=> ?_));refine U ?_;obtain⟨rfl,ht,hs0⟩:=hm;refine .rt hK func196 results196 [] ?_;exact fun H' hs=> SortSQ.of hs (i:=0) rfl ⟨rfl,ht,hs0⟩
theorem SortS_c(dec:Int→List UInt8)(sb:Nat)(l:List Int)(jj:List Value)(n cap:Nat)(hn:n=l.length)(hE:Enc dec l)(h12:n≤12)(hS:H sb=some (true,.cells ⟨(strsL dec l)++jj⟩ 9 (0,0))):
   CallT M 120 #[.slice (some ⟨sb,0,none⟩) n cap] H (SortSQ dec H sb jj (fun v m=> v=.tuple ⟨[]⟩∧Turned 0 n l m∧Srt 0 n m)):=by
 have hw:=u64_12 n (by omega);refine CallT.enter (vs:= [.slice (some ⟨sb,0,none⟩) n cap]) func120 rfl ntmps120 (Nat.le_of_ble_eq_true rfl) (SymSt.pull hS) fun St c cs hK=> ?_;refine U11 ?_;refine .c rfl rfl rfl rfl (fun H hs=> .h (Len_c M H n (by omega))) ?_;refine .e (Or.sortsS (dec:=dec) (l:=l) 0 (fun v m=> v=.tuple ⟨[]⟩∧Turned 0 n l m∧Srt 0 n m) rfl rfl rfl rfl rfl (by decide) rfl (fun H hs=> .h (pdqS_c M H dec sb l jj n cap (bl n:Nat) hn hE h12 (hs.get (i:=0) rfl))) (fun v m hm=> ?_));refine U ?_;obtain⟨rfl,ht,hs0⟩:=hm;refine .ov hK func120 results120 [] ?_;exact fun H' hs=> SortSQ.of hs (i:=0) rfl ⟨rfl,ht,hs0⟩
theorem insertionS_nil(c0:Nat):CallT M 256 #[.slice none 0 c0,.int .i64 0,.int .i64 ((0:Nat):Int)] H (fun v H'=> H.le H'∧v=.tuple ⟨[]⟩):=by
 refine .en func256 ntmps256 fun St c cs hK=> ?_;refine U5 ?_;refine .done (.block (.loop (.seq (.sr ?_))));refine U6 ?_;refine .ov hK func256 results256 [] ?_;exact okB
theorem pdqS_nil(c0:Nat)(lim:Int):CallT M 196 #[.slice none 0 c0,.int .i64 0,.int .i64 ((0:Nat):Int),.int .i64 lim] H (fun v H'=> H.le H'∧v=.tuple ⟨[]⟩):=by
 refine .en func196 ntmps196 fun St c cs hK=> ?_;refine U7 ?_;refine .done (.block (.loop (.block (.sr ?_))));refine U17 ?_;refine .c rfl rfl rfl rfl (fun H hs=> .h (insertionS_nil M H c0)) ?_;refine U ?_;refine .rt hK func196 results196 [] ?_;exact okB
theorem SortS_nil(c0:Nat):CallT M 120 #[.slice none 0 c0] H (fun v H'=> H.le H'∧v=.tuple ⟨[]⟩):=by
 have hw:=u64_12 0 (by omega);refine .en func120 ntmps120 fun St c cs hK=> ?_;refine U11 ?_;refine .c rfl rfl rfl rfl (fun H hs=> .h (Len_c M H 0 (by omega))) ?_;refine .c rfl rfl rfl rfl (fun H hs=> .h (pdqS_nil M H c0 (bl 0:Nat))) ?_;refine U ?_;refine .ov hK func120 results120 [] ?_;exact okB
theorem CompactS_nil(c0:Nat):CallT M 121 #[.slice none 0 c0] H (fun v H'=> H.le H'∧v=.slice none 0 c0):=by
 refine .en func121 ntmps121 fun St c cs hK=> ?_;refine U17 ?_;refine .rt hK func121 results121 [_] ?_;exact okB
end
def Gl.withS(g:Gl 9 1)(m:List Value)(h:m.length=g.n):Gl 9 1:=⟨g.blk,g.n,g.cap,m,g.junk,by rw[h,Nat.mul_one],g.hc,g.hj,g.h0⟩
theorem Or.sortSGl {dec:Int→List UInt8}{M:Md prog}{n:Nat}{H₀:View}{R:Rg}{L1:Bl}{o:Oper}{K:Rg→Bl→Prop}{cl:Go.Call}{x:Operand}{fv:Value}{d:Nat}(g:Gl 9 1)(u:List Int)(hg:g.l=(strsL dec u))(hE:Enc dec u)(h12:g.n≤12)
   (hop:o.op=.call cl) (hcl:cl.callee=.value x) (hx:evR R x=some fv) (has:evRs R cl.args.toList=some [g.val]) (hd:o.dst=some d) (hn:d<n)
   (hc:∀(H:View) (Q:Value→View→Prop),CallT M 120 #[g.val] H Q→FnT M fv [g.val] H Q)
   (hK:∀(g':Gl 9 1) (m:List Int),g'.val=g.val→g'.n=g.n→g'.blk=g.blk→g'.l=(strsL dec m)→Turned 0 g.n u m→Srt 0 g.n m→K ((d,.tuple ⟨[]⟩)::R) (L1++g'.bl)):Or M n H₀ R (L1++g.bl) o K:=by
 have hul:u.length=g.n:=by have:=g.hl;rw[hg,strsL_len] at this;omega
 cases hb:g.blk with
 | none=>
   have hcap:=g.h0 hb;have hgc:=g.hc;have h0:g.n=0:=by omega
   have hbl:g.bl= []:=by unfold Gl.bl;rw[hb]
   have hv:g.val=.slice none 0 g.cap:=by unfold Gl.val;rw[hb,h0];rfl
   refine Or.callNew (fun _:Unit=> .tuple ⟨[]⟩) (fun _=> []) (fun _=> True) hop hcl hx has hd hn (fun _=> by simp) (fun H hs=> hc H _ ?_) (fun _ _=> ?_)
   · rw[hv];exact CallT.mono (SortS_nil M H g.cap) (fun v H' ⟨h1,h2⟩=> ⟨h1,(),h2,trivial,by simp⟩)
   · rw[List.append_nil];exact hK g u rfl rfl rfl hg (Turned.refl _ _ _) (fun p q h1 h2 h3=> by omega)
 | some b=>
   have hbl:g.bl= [(b,true,.cells ⟨(strsL dec u)++g.junk⟩ 9 (0,0))]:=by unfold Gl.bl;rw[hb,hg]
   have hv:g.val=.slice (some ⟨b,0,none⟩) g.n g.cap:=by unfold Gl.val;rw[hb];rfl
   rw[hbl];refine Or.sortsS (dec:=dec) (l:=u) L1.length (fun v m=> v=.tuple ⟨[]⟩∧Turned 0 g.n u m∧Srt 0 g.n m) hop hcl hx has hd hn (by rw[List.getElem?_append_right (Nat.le_refl _),Nat.sub_self];rfl)
     (fun H hs=> hc H _ ?_) (fun v m ⟨h1,h2,h3⟩=> ?_)
   · rw[hv];exact SortS_c M H dec b u g.junk g.n g.cap hul.symm hE h12 (hs.get (i:=L1.length) (by rw[List.getElem?_append_right (Nat.le_refl _),Nat.sub_self];rfl))
   · subst h1;have hml:m.length=g.n:=by rw[h2.len];exact hul
     have:=hK (Gl.withS g (strsL dec m) (by rw[strsL_len];exact hml)) m rfl rfl rfl rfl h2 h3;have hbl':(Gl.withS g (strsL dec m) (by rw[strsL_len];exact hml)).bl= [(b,true,.cells ⟨(strsL dec m)++g.junk⟩ 9 (0,0))]:=by
       unfold Gl.bl Gl.withS;simp only[hb]
     rw[hbl'] at this;rw[List.set_append_right _ _ (Nat.le_refl _),Nat.sub_self];exact this
theorem Or.compSGl {dec:Int→List UInt8}{M:Md prog}{n:Nat}{H₀:View}{R:Rg}{L1:Bl}{o:Oper}{K:Rg→Bl→Prop}{cl:Go.Call}{x:Operand}{fv:Value}{d:Nat}(g:Gl 9 1)(u:List Int)(hg:g.l=(strsL dec u))(hE:Enc dec u)(h12:g.n≤100000000)
   (hop:o.op=.call cl) (hcl:cl.callee=.value x) (hx:evR R x=some fv) (has:evRs R cl.args.toList=some [g.val]) (hd:o.dst=some d) (hn:d<n)
   (hc:∀(H:View) (Q:Value→View→Prop),CallT M 121 #[g.val] H Q→FnT M fv [g.val] H Q)
   (hK:∀(g':Gl 9 1),g'.n=(ddTo u g.n).length→g'.l=(strsL dec (ddTo u g.n))→K ((d,g'.val)::R) (L1++g'.bl)):Or M n H₀ R (L1++g.bl) o K:=by
 have hul:u.length=g.n:=by have:=g.hl;rw[hg,strsL_len] at this;omega
 cases hb:g.blk with
 | none=>
   have hcap:=g.h0 hb;have hgc:=g.hc;have h0:g.n=0:=by omega
   have hbl:g.bl= []:=by unfold Gl.bl;rw[hb]
   have hv:g.val=.slice none 0 g.cap:=by unfold Gl.val;rw[hb,h0];rfl
   have hu0:u= []:=List.eq_nil_of_length_eq_zero (by omega);refine Or.callNew (fun _:Unit=> g.val) (fun _=> []) (fun _=> True) hop hcl hx has hd hn (fun _=> by simp) (fun H hs=> hc H _ ?_) (fun _ _=> ?_)
   · rw[hv];exact CallT.mono (CompactS_nil M H g.cap) (fun v H' ⟨h1,h2⟩=> ⟨h1,(),h2,trivial,by simp⟩)
   · rw[List.append_nil];refine hK g (by rw[h0];rfl) ?_;rw[hg,hu0,h0];rfl
 | some b=>
   have hbl:g.bl= [(b,true,.cells ⟨(strsL dec u)++g.junk⟩ 9 (0,0))]:=by unfold Gl.bl;rw[hb,hg]
   have hv:g.val=.slice (some ⟨b,0,none⟩) g.n g.cap:=by unfold Gl.val;rw[hb];rfl
   rw[hbl];have hi:(L1++[(b,true,Obj.cells ⟨(strsL dec u)++g.junk⟩ 9 (0,0))])[L1.length]? =some (b,true,Obj.cells ⟨(strsL dec u)++g.junk⟩ 9 (0,0)):=by rw[List.getElem?_append_right (Nat.le_refl _),Nat.sub_self];rfl
   refine .callV hop hcl hx has (Q:=fun H v H'=> CompSQ dec H b u g.junk g.n g.cap v H') (fun H hs=> hc H _ ?_) (fun H v H' hs hq=> ?_)
   · rw[hv];exact CompactS_c M H dec b u g.junk g.n g.cap hul.symm hE h12 g.hc (hs.get hi)
   · obtain⟨h1,rest,h2,h3,h4⟩:=hq;subst h2;have hle:=ddTo_le u g.n;have hgc:=g.hc;have hgj:=g.hj;refine⟨L1++[(b,true,.cells ⟨(strsL dec (ddTo u g.n))++rest⟩ 9 (0,0))],_,?_,by rw[hd];exact⟨hn,rfl⟩,?_⟩
     · have:=SymSt_turn hs hi h1 h4;rw[List.set_append_right _ _ (Nat.le_refl _),Nat.sub_self] at this;exact this
     · have:=hK ⟨some b,(ddTo u g.n).length,g.cap,(strsL dec (ddTo u g.n)),rest,by rw[strsL_len,Nat.mul_one],by omega,by omega,fun h=> by cases h⟩ rfl rfl;exact this
section
variable(M:Md prog)(H:View)
theorem pdqI_c(sb:Nat)(l:List Int)(jj:List Value)(n cap:Nat)(lim:Int)(hn:n=l.length)(h12:n≤12)(hS:H sb=some (true,.cells ⟨(intsL l)++jj⟩ 3 (0,0))):
   CallT M 222 #[.slice (some ⟨sb,0,none⟩) n cap,.int .i64 0,.int .i64 (n:Nat),.int .i64 lim] H (SortIQ H sb jj (fun v m=> v=.tuple ⟨[]⟩∧Turned 0 n l m∧Srt 0 n m)):=by
 refine CallT.enter (vs:= [.slice (some ⟨sb,0,none⟩) n cap,.int .i64 0,.int .i64 (n:Nat),.int .i64 lim]) func222 rfl ntmps222 (Nat.le_of_ble_eq_true rfl) (SymSt.pull hS) fun St c cs hK=> ?_;refine U7 ?_;refine .done (.block (.loop (.block (.sr ?_))));refine U17 ?_;refine .e (Or.sortsI (l:=l) 0 (fun v m=> v=.tuple ⟨[]⟩∧Turned 0 n l m∧Srt 0 n m) rfl rfl rfl rfl rfl (by decide) rfl (fun H hs=> .h (insertionI_c M H sb l jj n cap 0 n hn (by omega) (by omega) (by omega) (hs.get (i:=0) rfl))) (fun v m hm=> ?_));refine U ?_;obtain⟨rfl,ht,hs0⟩:=hm;refine .rt hK func222 results222 [] ?_;exact fun H' hs=> SortIQ.of hs (i:=0) rfl ⟨rfl,ht,hs0⟩
theorem SortI_c(sb:Nat)(l:List Int)(jj:List Value)(n cap:Nat)(hn:n=l.length)(h12:n≤12)(hS:H sb=some (true,.cells ⟨(intsL l)++jj⟩ 3 (0,0))):
   CallT M 135 #[.slice (some ⟨sb,0,none⟩) n cap] H (SortIQ H sb jj (fun v m=> v=.tuple ⟨[]⟩∧Turned 0 n l m∧Srt 0 n m)):=by
 have hw:=u64_12 n (by omega);refine CallT.enter (vs:= [.slice (some ⟨sb,0,none⟩) n cap]) func135 rfl ntmps135 (Nat.le_of_ble_eq_true rfl) (SymSt.pull hS) fun St c cs hK=> ?_;refine U11 ?_;refine .c rfl rfl rfl rfl (fun H hs=> .h (Len_c M H n (by omega))) ?_;refine .e (Or.sortsI (l:=l) 0 (fun v m=> v=.tuple ⟨[]⟩∧Turned 0 n l m∧Srt 0 n m) rfl rfl rfl rfl rfl (by decide) rfl (fun H hs=> .h (pdqI_c M H sb l jj n cap (bl n:Nat) hn h12 (hs.get (i:=0) rfl))) (fun v m hm=> ?_));refine U ?_;obtain⟨rfl,ht,hs0⟩:=hm;refine .ov hK func135 results135 [] ?_;exact fun H' hs=> SortIQ.of hs (i:=0) rfl ⟨rfl,ht,hs0⟩
theorem insertionI_nil(c0:Nat):CallT M 272 #[.slice none 0 c0,.int .i64 0,.int .i64 ((0:Nat):Int)] H (fun v H'=> H.le H'∧v=.tuple ⟨[]⟩):=by
 refine .en func272 ntmps272 fun St c cs hK=> ?_;refine U5 ?_;refine .done (.block (.loop (.seq (.sr ?_))));refine U6 ?_;refine .ov hK func272 results272 [] ?_;exact okB
theorem pdqI_nil(c0:Nat)(lim:Int):CallT M 222 #[.slice none 0 c0,.int .i64 0,.int .i64 ((0:Nat):Int),.int .i64 lim] H (fun v H'=> H.le H'∧v=.tuple ⟨[]⟩):=by
 refine .en func222 ntmps222 fun St c cs hK=> ?_;refine U7 ?_;refine .done (.block (.loop (.block (.sr ?_))));refine U17 ?_;refine .c rfl rfl rfl rfl (fun H hs=> .h (insertionI_nil M H c0)) ?_;refine U ?_;refine .rt hK func222 results222 [] ?_;exact okB
theorem SortI_nil(c0:Nat):CallT M 135 #[.slice none 0 c0] H (fun v H'=> H.le H'∧v=.tuple ⟨[]⟩):=by
 have hw:=u64_12 0 (by omega);refine .en func135 ntmps135 fun St c cs hK=> ?_;refine U11 ?_;refine .c rfl rfl rfl rfl (fun H hs=> .h (Len_c M H 0 (by omega))) ?_;refine .c rfl rfl rfl rfl (fun H hs=> .h (pdqI_nil M H c0 (bl 0:Nat))) ?_;refine U ?_;refine .ov hK func135 results135 [] ?_;exact okB
theorem CompactI_nil(c0:Nat):CallT M 136 #[.slice none 0 c0] H (fun v H'=> H.le H'∧v=.slice none 0 c0):=by
 refine .en func136 ntmps136 fun St c cs hK=> ?_;refine U17 ?_;refine .rt hK func136 results136 [_] ?_;exact okB
end
def Gl.withI(g:Gl 3 1)(m:List Value)(h:m.length=g.n):Gl 3 1:=⟨g.blk,g.n,g.cap,m,g.junk,by rw[h,Nat.mul_one],g.hc,g.hj,g.h0⟩
theorem Or.sortIGl {M:Md prog}{n:Nat}{H₀:View}{R:Rg}{L1:Bl}{o:Oper}{K:Rg→Bl→Prop}{cl:Go.Call}{x:Operand}{fv:Value}{d:Nat}(g:Gl 3 1)(u:List Int)(hg:g.l=(intsL u))(h12:g.n≤12)
   (hop:o.op=.call cl) (hcl:cl.callee=.value x) (hx:evR R x=some fv) (has:evRs R cl.args.toList=some [g.val]) (hd:o.dst=some d) (hn:d<n)
   (hc:∀(H:View) (Q:Value→View→Prop),CallT M 135 #[g.val] H Q→FnT M fv [g.val] H Q)
   (hK:∀(g':Gl 3 1) (m:List Int),g'.val=g.val→g'.n=g.n→g'.blk=g.blk→g'.l=(intsL m)→Turned 0 g.n u m→Srt 0 g.n m→K ((d,.tuple ⟨[]⟩)::R) (L1++g'.bl)):Or M n H₀ R (L1++g.bl) o K:=by
 have hul:u.length=g.n:=by have:=g.hl;rw[hg,intsL_len] at this;omega
 cases hb:g.blk with
 | none=>
   have hcap:=g.h0 hb;have hgc:=g.hc;have h0:g.n=0:=by omega
   have hbl:g.bl= []:=by unfold Gl.bl;rw[hb]
   have hv:g.val=.slice none 0 g.cap:=by unfold Gl.val;rw[hb,h0];rfl
   refine Or.callNew (fun _:Unit=> .tuple ⟨[]⟩) (fun _=> []) (fun _=> True) hop hcl hx has hd hn (fun _=> by simp) (fun H hs=> hc H _ ?_) (fun _ _=> ?_)
   · rw[hv];exact CallT.mono (SortI_nil M H g.cap) (fun v H' ⟨h1,h2⟩=> ⟨h1,(),h2,trivial,by simp⟩)
   · rw[List.append_nil];exact hK g u rfl rfl rfl hg (Turned.refl _ _ _) (fun p q h1 h2 h3=> by omega)
 | some b=>
   have hbl:g.bl= [(b,true,.cells ⟨(intsL u)++g.junk⟩ 3 (0,0))]:=by unfold Gl.bl;rw[hb,hg]
   have hv:g.val=.slice (some ⟨b,0,none⟩) g.n g.cap:=by unfold Gl.val;rw[hb];rfl
   rw[hbl];refine Or.sortsI (l:=u) L1.length (fun v m=> v=.tuple ⟨[]⟩∧Turned 0 g.n u m∧Srt 0 g.n m) hop hcl hx has hd hn (by rw[List.getElem?_append_right (Nat.le_refl _),Nat.sub_self];rfl)
     (fun H hs=> hc H _ ?_) (fun v m ⟨h1,h2,h3⟩=> ?_)
   · rw[hv];exact SortI_c M H b u g.junk g.n g.cap hul.symm h12 (hs.get (i:=L1.length) (by rw[List.getElem?_append_right (Nat.le_refl _),Nat.sub_self];rfl))
   · subst h1;have hml:m.length=g.n:=by rw[h2.len];exact hul
     have:=hK (Gl.withI g (intsL m) (by rw[intsL_len];exact hml)) m rfl rfl rfl rfl h2 h3;have hbl':(Gl.withI g (intsL m) (by rw[intsL_len];exact hml)).bl= [(b,true,.cells ⟨(intsL m)++g.junk⟩ 3 (0,0))]:=by
       unfold Gl.bl Gl.withI;simp only[hb]
     rw[hbl'] at this;rw[List.set_append_right _ _ (Nat.le_refl _),Nat.sub_self];exact this
theorem Or.compIGl {M:Md prog}{n:Nat}{H₀:View}{R:Rg}{L1:Bl}{o:Oper}{K:Rg→Bl→Prop}{cl:Go.Call}{x:Operand}{fv:Value}{d:Nat}(g:Gl 3 1)(u:List Int)(hg:g.l=(intsL u))(h12:g.n≤1000000)
   (hop:o.op=.call cl) (hcl:cl.callee=.value x) (hx:evR R x=some fv) (has:evRs R cl.args.toList=some [g.val]) (hd:o.dst=some d) (hn:d<n)
   (hc:∀(H:View) (Q:Value→View→Prop),CallT M 136 #[g.val] H Q→FnT M fv [g.val] H Q)
   (hK:∀(g':Gl 3 1),g'.n=(ddTo u g.n).length→g'.l=(intsL (ddTo u g.n))→K ((d,g'.val)::R) (L1++g'.bl)):Or M n H₀ R (L1++g.bl) o K:=by
 have hul:u.length=g.n:=by have:=g.hl;rw[hg,intsL_len] at this;omega
 cases hb:g.blk with
 | none=>
   have hcap:=g.h0 hb;have hgc:=g.hc;have h0:g.n=0:=by omega
   have hbl:g.bl= []:=by unfold Gl.bl;rw[hb]
   have hv:g.val=.slice none 0 g.cap:=by unfold Gl.val;rw[hb,h0];rfl
   have hu0:u= []:=List.eq_nil_of_length_eq_zero (by omega);refine Or.callNew (fun _:Unit=> g.val) (fun _=> []) (fun _=> True) hop hcl hx has hd hn (fun _=> by simp) (fun H hs=> hc H _ ?_) (fun _ _=> ?_)
   · rw[hv];exact CallT.mono (CompactI_nil M H g.cap) (fun v H' ⟨h1,h2⟩=> ⟨h1,(),h2,trivial,by simp⟩)
   · rw[List.append_nil];refine hK g (by rw[h0];rfl) ?_;rw[hg,hu0,h0];rfl
 | some b=>
   have hbl:g.bl= [(b,true,.cells ⟨(intsL u)++g.junk⟩ 3 (0,0))]:=by unfold Gl.bl;rw[hb,hg]
   have hv:g.val=.slice (some ⟨b,0,none⟩) g.n g.cap:=by unfold Gl.val;rw[hb];rfl
   rw[hbl];have hi:(L1++[(b,true,Obj.cells ⟨(intsL u)++g.junk⟩ 3 (0,0))])[L1.length]? =some (b,true,Obj.cells ⟨(intsL u)++g.junk⟩ 3 (0,0)):=by rw[List.getElem?_append_right (Nat.le_refl _),Nat.sub_self];rfl
   refine .callV hop hcl hx has (Q:=fun H v H'=> CompIQ H b u g.junk g.n g.cap v H') (fun H hs=> hc H _ ?_) (fun H v H' hs hq=> ?_)
   · rw[hv];exact CompactI_c M H b u g.junk g.n g.cap hul.symm h12 g.hc (hs.get hi)
   · obtain⟨h1,rest,h2,h3,h4⟩:=hq;subst h2;have hle:=ddTo_le u g.n;have hgc:=g.hc;have hgj:=g.hj;refine⟨L1++[(b,true,.cells ⟨(intsL (ddTo u g.n))++rest⟩ 3 (0,0))],_,?_,by rw[hd];exact⟨hn,rfl⟩,?_⟩
     · have:=SymSt_turn hs hi h1 h4;rw[List.set_append_right _ _ (Nat.le_refl _),Nat.sub_self] at this;exact this
     · have:=hK ⟨some b,(ddTo u g.n).length,g.cap,(intsL (ddTo u g.n)),rest,by rw[intsL_len,Nat.mul_one],by omega,by omega,fun h=> by cases h⟩ rfl rfl;exact this
set_option maxHeartbeats 16000000
def Bk.hit(k:Bk)(line:Nat)(s:List UInt8):Option Int:=match k.line s with
 | some j=> if j=line then none else some (j:Nat)
 | none=> none
def Bk.hits(k:Bk)(line:Nat):List Int:=(slipsL (k.num line)).filterMap (k.hit line)
def slipsV(g:Gl 3 1)(a:Int):Value:=.tuple ⟨[g.val,.int .i64 a]⟩
theorem Bk.isNum_of {k:Bk}(ha:k.alarm=0){i:Nat}(hi:i<k.nl):(k.num i).all dig=true∧1≤(k.num i).length∧(k.num i).length≤3:=by
 obtain⟨_,_,h,_⟩:=Bk.line_ok ha hi;unfold isNum at h;simp only[Bool.and_eq_true,decide_eq_true_eq] at h;exact⟨h.2,h.1.1,h.1.2⟩
theorem slipsFrom_len(s:List UInt8):∀m i,s.length-i=m→(slipsFrom s i).length≤2*m
 | 0,i,h=> by rw[slipsFrom_nil (by omega)];exact Nat.le_refl _
 | m + 1,i,h=> by
   rw[slipsFrom_cons (by omega),List.length_append];have h1:=slipsFrom_len s m (i+1) (by omega);have h2:(slipsAt s i).length≤2:=by
     unfold slipsAt slipAt;rw[List.length_append];split <;> split <;> simp
   omega
theorem Bk.hits_len {k:Bk}(ha:k.alarm=0){i:Nat}(hi:i<k.nl):(k.hits i).length≤6:=by
 obtain⟨_,_,h⟩:=Bk.isNum_of ha hi;have h1:=slipsFrom_len (k.num i) _ 0 rfl;have h2:(k.hits i).length≤(slipsL (k.num i)).length:=List.length_filterMap_le _ _;unfold slipsL at h2;omega
section
variable(M:Md prog)(H:View)
theorem Slips_c(k:Bk)(A:Option Addr)(lc:Nat)(B:Option Addr)(tc:Nat)(hk:BkAt H k A lc B tc)(hn:k.small)(hG:Glob H)(ha:k.alarm=0)(line:Nat)(hl:line<k.nl):
   CallT M 55 #[k.val A lc B tc,.int .i64 (line:Nat)] H (fun v H'=> H.le H'∧∃(g:Gl 3 1) (m:List Int),v=slipsV g 0∧(Turned 0 (k.hits line).length (k.hits line) m∧Srt 0 (k.hits line).length m)∧(g.n=(ddTo m m.length).length∧g.l=intsL (ddTo m m.length))∧∀x∈g.bl,H' x.1=some x.2∧H x.1=none):=by
 obtain⟨hdg,hl1,hl3⟩:=Bk.isNum_of ha hl;have hnl:=hn.nl;have hhl:=Bk.hits_len ha hl;have hb:=fun(H':View)=> between_is M H' ((line:Nat):Int) 0 ((k.nl:Int)-1) true (decide_eq_true (by omega));have hop:=fun(H':View) (h':H.le H')=> open_yes M H' k A lc B tc (hk.le h') hn (glob_le hG h') ha;have hRows:=hk.rows;obtain⟨_,h0|⟨ab,ao,fa,gs,gt,gz,rfl,hab,hrow⟩⟩:=hRows
 · omega
 obtain⟨F,fc,f1,_,_⟩:=hrow line hl;have f2:ldL false 1 gs (ao+((line:Nat):Int).toNat*3+1)=some (strV (k.num line)):=ldL_cell f1 (by decide);refine .en func55 ntmps55 fun St c cs hK=> ?_;refine U2 ?_;refine .bo fun b2=> ?_;refine .bo fun b3=> ?_;refine U4 ?_;refine Tc.dr [12] [] mixed rfl ?_;refine .nn 0 ?_;refine .nn 1 ?_;refine .nn 2 ?_;refine .nn 3 ?_;refine .nn 4 ?_;refine .nn 5 ?_;refine .z 6 rfl (OpV.takeCall rfl rfl rfl rfl (fun H hs=> .h (hb H))) ?_;refine .z 7 rfl (OpV.takeCall rfl rfl rfl rfl (fun H hs=> .h (hop H hs.base))) ?_;refine .nn 8 ?_;refine .nn 9 ?_;refine .nw 10 ?_;refine Ta.each [11] (by kernel_rfl) rfl ⟨TaOp.mk rfl rfl rfl (.al (zz:=fun b6=> ⟨S2.mk (by apply List.Sublist.cons;exact List.Sublist.refl _) (.inr (by apply List.Sublist.cons;exact List.Sublist.refl _)),?_⟩)),trivial⟩;refine .e 12 0 ?_;refine .nw 13 ?_;refine .dn ?_;refine U10 ?_;refine .al fun b8=> ?_;refine U10 ?_;refine To.callF rfl rfl rfl rfl rfl rfl (by decide) (FnT.h (slips_c M H (k.num line))) (fun v H₁ hv=> ?_);obtain⟨hle1,sb,rfl,hcap⟩:=hv;refine U ?_;have hit:=fun(H':View) (hc:CapS (k.num line) sb H')=> slips_it M H' (k.num line) hdg (by omega) sb hc;refine U ?_;refine Tc.db (R':= [(2,.pointer (some ⟨b2,0,none⟩)),(3,.pointer (some ⟨b3,0,none⟩)),(6,.pointer (some ⟨b6,0,none⟩)),(8,.pointer (some ⟨b8,0,none⟩)),(31,slipF sb)]) (L':= [(b8,true,.cells ⟨[(Gl.nil 3 1).val]⟩ 24 (0,0)),(b6,true,.cells ⟨(k.val (some ⟨ab,ao,none⟩) lc B tc).cells.toList⟩ 166 (0,0)),(b3,true,.cells ⟨[.int .i64 (line:Nat)]⟩ 3 (0,0)),(b2,true,.cells ⟨(k.val (some ⟨ab,ao,none⟩) lc B tc).cells.toList⟩ 45 (0,0))]) ?_;refine Tc.rangeL (A:= []) (ts:= [32]) (xs:=slipsL (k.num line)) (fun rest H₄ L₄=> ∃(g:Gl 3 1) (dn:List Int),L₄= [(b8,true,.cells ⟨[g.val]⟩ 24 (0,0)),(b6,true,.cells ⟨(k.val (some ⟨ab,ao,none⟩) lc B tc).cells.toList⟩ 166 (0,0)),(b3,true,.cells ⟨[.int .i64 (line:Nat)]⟩ 3 (0,0)),(b2,true,.cells ⟨(k.val (some ⟨ab,ao,none⟩) lc B tc).cells.toList⟩ 45 (0,0))]++g.bl
     ∧g.l=intsL dn∧dn++rest.filterMap (k.hit line)=k.hits line∧CapS (k.num line) sb H₄∧H₁.le H₄) (fun _ _ _=> False) rfl rfl rfl rfl hit (fun _ _=> CapS.le _ _) (fun _ _ _ ⟨_,_,_,_,_,h,_⟩=> h) rfl (fun _ _=> rfl)
     ⟨Gl.nil 3 1,[],rfl,rfl,rfl,hcap,View.le_refl _⟩ ?_ ?_ (fun _ _ _ _ h=> h.elim)
 · rintro r x rest _ l tmps asg bdy H₄ _ hx ⟨g,dn,rfl,q1,q2,q3,q4⟩ Q St1 cc1 cs1 hK1 q q';have hln:=fun(H':View) (h':H₄.le H')=> line_c M H' k (some ⟨ab,ao,none⟩) lc B tc (hk.rows.le (View.le_trans hle1 (View.le_trans q4 h'))) hn.nl x;have hgn:g.n=dn.length:=by have:=g.hl;rw[q1,intsL_len] at this;omega
   have hdl:dn.length≤6:=by
     have:=congrArg List.length q2;rw[List.length_append] at this;omega
   cases hlx:k.line x with
   | none=>
     rw[hlx] at hln;have e2:firstI none= -1:=rfl;rw[e2] at hln;have e3:k.hit line x=none:=by unfold Bk.hit;rw[hlx]
     rw[List.filterMap_cons_none e3] at q2;refine U3 ?_;refine Tc.beginRound (i:=0) rfl rfl rfl ?_;refine U5 ?_;refine .c rfl rfl rfl rfl (fun H hs=> .h (hln H hs.base)) ?_;refine U15 ?_;refine Tc.leaveRound hK1 (i:=0) rfl (.inl ⟨rfl,rfl⟩) (fun H' hs=> q H' H₄ _ hs ⟨g,dn,rfl,q1,q2,q3,q4⟩)
   | some j=>
     rw[hlx] at hln;have e2:firstI (some j)=(j:Nat):=rfl;rw[e2] at hln;by_cases c1:j=line
     · have e3:k.hit line x=none:=by unfold Bk.hit;rw[hlx];exact if_pos c1
       rw[List.filterMap_cons_none e3] at q2;refine U3 ?_;refine Tc.beginRound (i:=0) rfl rfl rfl ?_;refine U5 ?_;refine .c rfl rfl rfl rfl (fun H hs=> .h (hln H hs.base)) ?_;refine U15 ?_;refine Tc.leaveRound hK1 (i:=0) rfl (.inl ⟨rfl,rfl⟩) (fun H' hs=> q H' H₄ _ hs ⟨g,dn,rfl,q1,q2,q3,q4⟩)
     · have e3:k.hit line x=some (j:Nat):=by unfold Bk.hit;rw[hlx];exact if_neg c1
       rw[List.filterMap_cons_some e3] at q2;refine U3 ?_;refine Tc.beginRound (i:=0) rfl rfl rfl ?_;refine U5 ?_;refine .c rfl rfl rfl rfl (fun H hs=> .h (hln H hs.base)) ?_;refine U16 ?_;refine .e (.bs (zz:=fun bs=> ?_));refine .e (Or.append (E:=en) 7 rfl rfl rfl rfl rfl rfl rfl rfl rfl rfl rfl rfl rfl rfl rfl (fun H hs=> SrcAt.of (hs.get (i:=0) rfl) (Nat.le_of_ble_eq_true rfl)) rfl (by omega) rfl (by decide) (fun g' hn2 hl2=> ?_));refine U3 ?_;refine Tc.leaveRound hK1 (i:=1) rfl (.inl ⟨rfl,rfl⟩) (fun H' hs=> q H' H₄ _ (hs.less (by apply List.Sublist.cons;exact List.Sublist.refl _)) ⟨g',dn++[((j:Nat):Int)],rfl,by rw[hl2,q1];unfold intsL;rw[List.map_append];rfl,by rw[List.append_assoc];exact q2,q3,q4⟩)
 · rintro r H₄ _ ⟨g,dn,rfl,q1,q2,q3,q4⟩;have q5:dn=k.hits line:=by rw[←q2];simp
   subst q5;have hgn:g.n=(k.hits line).length:=by have:=g.hl;rw[q1,intsL_len] at this;omega
   refine U4 ?_;refine .e (Or.sortIGl (L1:= [(r,true,.deferred (some [])),(b8,true,.cells ⟨[g.val]⟩ 24 (0,0)),(b6,true,.cells ⟨(k.val (some ⟨ab,ao,none⟩) lc B tc).cells.toList⟩ 166 (0,0)),(b3,true,.cells ⟨[.int .i64 (line:Nat)]⟩ 3 (0,0)),(b2,true,.cells ⟨(k.val (some ⟨ab,ao,none⟩) lc B tc).cells.toList⟩ 45 (0,0))]) g (k.hits line) q1 (by omega) rfl rfl rfl rfl rfl (by decide) (fun H Q h=> .h h) (fun g' m hv' hn' hb' hl' ht hs'=> ?_));rw[←hv'];rw[hgn] at ht hs' hn';have hml:m.length=(k.hits line).length:=ht.len;refine U4 ?_;refine .e (Or.compIGl (L1:= [(r,true,.deferred (some [])),(b8,true,.cells ⟨[g'.val]⟩ 24 (0,0)),(b6,true,.cells ⟨(k.val (some ⟨ab,ao,none⟩) lc B tc).cells.toList⟩ 166 (0,0)),(b3,true,.cells ⟨[.int .i64 (line:Nat)]⟩ 3 (0,0)),(b2,true,.cells ⟨(k.val (some ⟨ab,ao,none⟩) lc B tc).cells.toList⟩ 45 (0,0))]) g' m hl' (by omega) rfl rfl rfl rfl rfl (by decide) (fun H Q h=> .h h) (fun g2 hn3 hl3=> ?_));rw[hn',←hml] at hn3 hl3;refine U3 ?_;refine Tc.retD (E:=en) (i:=0) hK func55 results55 (vs:= [_,_]) rfl ⟨rfl,rfl,trivial⟩ ?_;exact fun H' hs=> ⟨View.le_trans hle1 (View.le_trans q4 hs.base),g2,m,rfl,⟨ht,hs'⟩,⟨hn3,hl3⟩,fun x hx=> ⟨hs.at_ x (by simp[hx]),none_le (View.le_trans hle1 q4) (hs.out x (by simp[hx]))⟩⟩
end
def Bk.safe1(k:Bk)(s:List UInt8):Bool:=(slipsL s).all fun x=> (k.line x).isNone
def Bk.safeAt(k:Bk)(s:List UInt8)(i:Nat):Bool:=(slipsL (k.num i)).all fun x=> !begins x s
def Bk.safe(k:Bk)(s:List UInt8):Bool:=k.safe1 s&&allB (k.safeAt s) k.nl
def takenN(s:List UInt8):Nat:=(s.map pn).sum
theorem takenN_le(s:List UInt8)(h:s.all dig=true):takenN s≤10*s.length:=by
 induction s with
 | nil=> exact Nat.le_refl _
 | cons x t ih=>
   rw[List.all_cons,Bool.and_eq_true] at h;have h1:=ih h.2;have h2:=pn_in h.1;unfold takenN at h1 ⊢;rw[List.map_cons,List.sum_cons,List.length_cons];omega
theorem takenN_at {s:List UInt8}{p:Nat}{x:UInt8}(h:s[p]? =some x):takenN (s.take (p+1))=takenN (s.take p)+pn x:=by
 obtain⟨hp,rfl⟩:=List.getElem?_eq_some_iff.1 h;unfold takenN;rw[List.take_succ_eq_append_getElem hp,List.map_append,List.sum_append];rfl
section
variable(M:Md prog)(H:View)
theorem safe_c(k:Bk)(A:Option Addr)(lc:Nat)(B:Option Addr)(tc:Nat)(hk:BkAt H k A lc B tc)(hn:k.small)(ha:k.alarm=0)(s:List UInt8)(hs1:s.all dig=true)(hs2:s.length≤1000):
   CallT M 138 #[k.val A lc B tc,strV s] H (fun v H'=> H.le H'∧v=.bool (k.safe s)):=by
 have hnl:=hn.nl;refine .en func138 ntmps138 fun St c cs hK=> ?_;refine U2 ?_;refine .bo fun b2=> ?_;refine .bo fun b3=> ?_;refine .al fun b4=> ?_;refine U5 ?_;refine To.callF rfl rfl rfl rfl rfl rfl (by decide) (FnT.h (slips_c M H s)) (fun v H₁ hv=> ?_);obtain⟨hle1,sb,rfl,hcap⟩:=hv;refine U ?_;have hit:=fun(H':View) (hc:CapS s sb H')=> slips_it M H' s hs1 hs2 sb hc;refine U ?_;refine Tc.db (R':= [(2,.pointer (some ⟨b2,0,none⟩)),(3,.pointer (some ⟨b3,0,none⟩)),(4,.pointer (some ⟨b4,0,none⟩)),(10,slipF sb)]) (L':= [(b4,true,.cells ⟨[.bool false]⟩ 4 (0,0)),(b3,true,.cells ⟨[strV s]⟩ 9 (0,0)),(b2,true,.cells ⟨(k.val A lc B tc).cells.toList⟩ 166 (0,0))]) ?_;refine Tc.rangeLc (A:= []) (ts:= [11]) (xs:=slipsL s) (fun rest H₄=> k.safe1 s=rest.all (fun x=> (k.line x).isNone)∧CapS s sb H₄∧H₁.le H₄) (fun j H₄=> j=.ret∧k.safe1 s=false∧H₁.le H₄) rfl rfl rfl rfl hit (fun _ _=> CapS.le _ _) (fun _ _ ⟨_,h,_⟩=> h) rfl (fun _ _=> rfl)
     ⟨rfl,hcap,View.le_refl _⟩ ?_ ?_ ?_
 · rintro r x rest _ l tmps asg bdy H₄ _ hx ⟨rfl,q2,q3,q4⟩ Q St1 cc1 cs1 hK1 q q';have hln:=fun(H':View) (h':H₄.le H')=> line_c M H' k A lc B tc (hk.rows.le (View.le_trans hle1 (View.le_trans q4 h'))) hn.nl x;rw[List.all_cons] at q2;cases hlx:k.line x with
   | none=>
     rw[hlx] at hln q2;have e2:firstI none= -1:=rfl;rw[e2] at hln;refine U3 ?_;refine Tc.beginRound (i:=0) rfl rfl rfl ?_;refine U5 ?_;refine .c rfl rfl rfl rfl (fun H hs=> .h (hln H hs.base)) ?_;refine U5 ?_;refine Tc.leaveRound hK1 (i:=0) rfl (.inl ⟨rfl,rfl⟩) (fun H' hs=> q H' H₄ _ hs ⟨rfl,q2,q3,q4⟩)
   | some j=>
     rw[hlx] at hln q2;have e2:firstI (some j)=(j:Nat):=rfl;rw[e2] at hln;refine U3 ?_;refine Tc.beginRound (i:=0) rfl rfl rfl ?_;refine U5 ?_;refine .c rfl rfl rfl rfl (fun H hs=> .h (hln H hs.base)) ?_;refine U7 ?_;refine Tc.leaveRound hK1 (i:=0) rfl (.inr (.inl ⟨_,rfl,rfl⟩)) (fun H' hs=> q' H' H₄ _ _ hs ⟨rfl,rfl,q2,q4⟩)
 · rintro r H₄ ⟨q2,q3,q4⟩;have hle4:=View.le_trans hle1 q4;have q5:k.safe1 s=true:=q2;refine Tc.marked (L:= [(b4,true,.cells ⟨[.bool false]⟩ 4 (0,0)),(b3,true,.cells ⟨[strV s]⟩ 9 (0,0)),(b2,true,.cells ⟨(k.val A lc B tc).cells.toList⟩ 166 (0,0))]) (rs:= []) ?_;refine U11 ?_;refine Tc.db (Tc.loopBD (σ:= { y:View×Nat×List Nat//H.le y.1∧y.2.1≤k.nl∧∀i,i<y.2.1→k.safeAt s i=true })
     (fun y=> (y.1.1,[(2,.pointer (some ⟨b2,0,none⟩)),(3,.pointer (some ⟨b3,0,none⟩)),(4,.pointer (some ⟨b4,0,none⟩)),(18,.slice A k.nl lc),(19,.int .i64 (k.nl:Nat)),(20,.int .i64 (y.1.2.1:Nat))],[(b4,true,.cells ⟨[.bool false]⟩ 4 (0,0)),(b3,true,.cells ⟨[strV s]⟩ 9 (0,0)),(b2,true,.cells ⟨(k.val A lc B tc).cells.toList⟩ 166 (0,0))]++Mk y.1.2.2,marks y.1.2.2)) (fun y=> k.nl-y.1.2.1) ?_ ⟨(H₄,0,[r]),hle4,Nat.zero_le _,fun i hi=> absurd hi (Nat.not_lt_zero _)⟩)
   rintro⟨⟨H₅,i,rs⟩,g1,g2,g3⟩ ih;simp only at g1 g2 g3;show Tc M St _ _ H₅ _ [(2,.pointer (some ⟨b2,0,none⟩)),(3,.pointer (some ⟨b3,0,none⟩)),(4,.pointer (some ⟨b4,0,none⟩)),(18,.slice A k.nl lc),(19,.int .i64 (k.nl:Nat)),(20,.int .i64 (i:Nat))] ([(b4,true,.cells ⟨[.bool false]⟩ 4 (0,0)),(b3,true,.cells ⟨[strV s]⟩ 9 (0,0)),(b2,true,.cells ⟨(k.val A lc B tc).cells.toList⟩ 166 (0,0))]++Mk rs) (marks rs) _;by_cases c1:i=k.nl
   · have e:k.safe s=true:=by
       unfold Bk.safe;rw[q5,(allB_iff k.nl).2 (by rw[←c1];exact g3)];rfl
     subst c1;rw[e] at hK;refine U11 ?_;refine Tc.retDs (E:=en) (L:= [(b4,true,.cells ⟨[.bool true]⟩ 4 (0,0)),(b3,true,.cells ⟨[strV s]⟩ 9 (0,0)),(b2,true,.cells ⟨(k.val A lc B tc).cells.toList⟩ 166 (0,0))]) (rs:=rs) hK func138 results138 (vs:= [_]) (by refine⟨⟨0,_,_,_,_,_,_,_,rfl,rfl,rfl,rfl⟩,?_⟩;exact trivial) ?_;exact fun H' hs=> ⟨View.le_trans g1 hs.base,rfl⟩
   · have c2:i<k.nl:=by omega
     obtain⟨hdg,hl1,hl3⟩:=Bk.isNum_of ha c2;have hRows:=hk.rows;obtain⟨_,h0|⟨ab,ao,fa,gs,gt,gz,rfl,hab,hrow⟩⟩:=hRows
     · omega
     obtain⟨F,fc,f1,_,_⟩:=hrow i c2;have hab5:=g1 _ _ hab;refine U13 ?_;refine .al fun b7=> ?_;refine U6 ?_;refine To.callF rfl rfl rfl rfl rfl rfl (by decide) (FnT.h (slips_c M H₅ (k.num i))) (fun v H₆ hv=> ?_);obtain⟨hle6,sb2,rfl,hcap2⟩:=hv;refine U ?_;have hit2:=fun(H':View) (hc:CapS (k.num i) sb2 H')=> slips_it M H' (k.num i) hdg (by omega) sb2 hc;refine U ?_;refine Tc.db (R':= [(2,.pointer (some ⟨b2,0,none⟩)),(3,.pointer (some ⟨b3,0,none⟩)),(4,.pointer (some ⟨b4,0,none⟩)),(18,.slice (some ⟨ab,ao,none⟩) k.nl lc),(19,.int .i64 (k.nl:Nat)),(20,.int .i64 (i:Nat)),(26,slipF sb2)]) (L':= [(b4,true,.cells ⟨[.bool false]⟩ 4 (0,0)),(b3,true,.cells ⟨[strV s]⟩ 9 (0,0)),(b2,true,.cells ⟨(k.val (some ⟨ab,ao,none⟩) lc B tc).cells.toList⟩ 166 (0,0))]++Mk rs) ?_;refine Tc.rangeLc (A:= []) (ts:= [27]) (xs:=slipsL (k.num i)) (fun rest H₄=> k.safeAt s i=rest.all (fun x=> !begins x s)∧CapS (k.num i) sb2 H₄∧H₆.le H₄) (fun j H₄=> j=.ret∧k.safeAt s i=false∧H₆.le H₄) rfl rfl rfl rfl hit2 (fun _ _=> CapS.le _ _) (fun _ _ ⟨_,h,_⟩=> h) rfl (fun _ _=> rfl)
         ⟨rfl,hcap2,View.le_refl _⟩ ?_ ?_ ?_
     · rintro r2 x rest _ l tmps asg bdy H₇ _ hx ⟨rfl,p2,p3,p4⟩ Q St1 cc1 cs1 hK1 q q';rw[List.all_cons] at p2;cases hbx:begins x s with
       | true=>
         rw[hbx] at p2;refine U3 ?_;refine Tc.beginRound (i:=0) rfl rfl rfl ?_;refine U5 ?_;refine .c rfl rfl rfl rfl (fun H hs=> .h (HasPrefix_is M H x s true hbx)) ?_;refine U6 ?_;refine Tc.leaveRound hK1 (i:=0) rfl (.inr (.inl ⟨_,rfl,rfl⟩)) (fun H' hs=> q' H' H₇ _ _ hs ⟨rfl,rfl,p2,p4⟩)
       | false=>
         rw[hbx] at p2;refine U3 ?_;refine Tc.beginRound (i:=0) rfl rfl rfl ?_;refine U5 ?_;refine .c rfl rfl rfl rfl (fun H hs=> .h (HasPrefix_is M H x s false hbx)) ?_;refine U4 ?_;refine Tc.leaveRound hK1 (i:=0) rfl (.inl ⟨rfl,rfl⟩) (fun H' hs=> q H' H₇ _ hs ⟨rfl,p2,p3,p4⟩)
     · rintro r2 H₇ ⟨p2,p3,p4⟩;refine Tc.marked (L:= [(b4,true,.cells ⟨[.bool false]⟩ 4 (0,0)),(b3,true,.cells ⟨[strV s]⟩ 9 (0,0)),(b2,true,.cells ⟨(k.val (some ⟨ab,ao,none⟩) lc B tc).cells.toList⟩ 166 (0,0))]) (rs:=rs) ?_;refine U6 ?_;have hfin:=ih ⟨(H₇,i+1,r2::rs),View.le_trans g1 (View.le_trans hle6 p4),c2,fun m hm=> by
         by_cases e:m=i
         · subst e;exact p2
         · exact g3 m (by simp only at hm;omega)⟩ (by simp only;omega)
       exact Tc.db hfin
     · rintro r2 j H₇ ⟨rfl,p2,p4⟩;have e:k.safe s=false:=by
         unfold Bk.safe;rw[allB_not c2 p2];simp
       rw[e] at hK;refine Tc.marked (L:= [(b4,true,.cells ⟨[.bool false]⟩ 4 (0,0)),(b3,true,.cells ⟨[strV s]⟩ 9 (0,0)),(b2,true,.cells ⟨(k.val (some ⟨ab,ao,none⟩) lc B tc).cells.toList⟩ 166 (0,0))]) (rs:=rs) ?_;refine Tc.retDs (E:=en) (L:= [(b4,true,.cells ⟨[.bool false]⟩ 4 (0,0)),(b3,true,.cells ⟨[strV s]⟩ 9 (0,0)),(b2,true,.cells ⟨(k.val (some ⟨ab,ao,none⟩) lc B tc).cells.toList⟩ 166 (0,0))]) (rs:=r2::rs) hK func138 results138 (vs:= [_]) (by refine⟨⟨0,_,_,_,_,_,_,_,rfl,rfl,rfl,rfl⟩,?_⟩;exact trivial) ?_;exact fun H' hs=> ⟨View.le_trans g1 (View.le_trans hle6 (View.le_trans p4 hs.base)),rfl⟩
 · rintro r j H₄ ⟨rfl,q2,q4⟩;have e:k.safe s=false:=by
     unfold Bk.safe;rw[q2];rfl
   rw[e] at hK;refine Tc.retD (E:=en) (i:=0) hK func138 results138 (vs:= [_]) rfl (by refine⟨⟨1,_,_,_,_,_,_,_,rfl,rfl,rfl,rfl⟩,?_⟩;exact trivial) ?_;exact fun H' hs=> ⟨View.le_trans hle1 (View.le_trans q4 hs.base),rfl⟩
def Bk.safeV(k:Bk)(s:List UInt8):Value:=
 if k.alarm≠0 then .tuple ⟨[.bool false,.int .i64 k.alarm]⟩ else if isNum s=false then .tuple ⟨[.bool false,.int .i64 3]⟩ else if k.clash s=true then .tuple ⟨[.bool false,.int .i64 10]⟩ else .tuple ⟨[.bool (k.safe s),.int .i64 0]⟩
theorem Safe_c(k:Bk)(A:Option Addr)(lc:Nat)(B:Option Addr)(tc:Nat)(hk:BkAt H k A lc B tc)(hn:k.small)(hG:Glob H)(s:List UInt8)(hs2:s.length≤1000):
   CallT M 56 #[k.val A lc B tc,strV s] H (fun v H'=> H.le H'∧v=k.safeV s):=by
 by_cases ha:k.alarm=0
 · have hop:=fun(H':View) (h':H.le H')=> open_yes M H' k A lc B tc (hk.le h') hn (glob_le hG h') ha;cases h1:isNum s with
   | false=>
     have ev:k.safeV s=.tuple ⟨[.bool false,.int .i64 3]⟩:=by
       unfold Bk.safeV;rw[if_neg (by simp[ha]),if_pos h1]
     rw[ev];refine .en func56 ntmps56 fun St c cs hK=> ?_;refine U2 ?_;refine .bo fun b2=> ?_;refine U6 ?_;refine .c rfl rfl rfl rfl (fun H hs=> .h (hop H hs.base)) ?_;refine U3 ?_;refine .al fun b6=> ?_;refine U15 ?_;refine .c rfl rfl rfl rfl (fun H hs=> .h (isB (isNumber_c M H s (by omega)) h1)) ?_;refine U9 ?_;refine .rt hK func56 results56 [_,_] ?_;exact okB
   | true=>
     have hdg:s.all dig=true:=by
       unfold isNum at h1;simp only[Bool.and_eq_true] at h1;exact h1.2
     cases h2:k.clash s with
     | true=>
       have ev:k.safeV s=.tuple ⟨[.bool false,.int .i64 10]⟩:=by
         unfold Bk.safeV;rw[if_neg (by simp[ha]),if_neg (by simp[h1]),if_pos h2]
       rw[ev];refine .en func56 ntmps56 fun St c cs hK=> ?_;refine U2 ?_;refine .bo fun b2=> ?_;refine U6 ?_;refine .c rfl rfl rfl rfl (fun H hs=> .h (hop H hs.base)) ?_;refine U3 ?_;refine .al fun b6=> ?_;refine U15 ?_;refine .c rfl rfl rfl rfl (fun H hs=> .h (isB (isNumber_c M H s (by omega)) h1)) ?_;refine U9 ?_;refine .c rfl rfl rfl rfl (fun H hs=> .h (isB (clashes_c M H k A lc (hk.rows.le hs.base) hn.nl s) h2)) ?_;refine U8 ?_;refine .rt hK func56 results56 [_,_] ?_;exact okB
     | false=>
       have ev:k.safeV s=.tuple ⟨[.bool (k.safe s),.int .i64 0]⟩:=by
         unfold Bk.safeV;rw[if_neg (by simp[ha]),if_neg (by simp[h1]),if_neg (by simp[h2])]
       rw[ev];refine .en func56 ntmps56 fun St c cs hK=> ?_;refine U2 ?_;refine .bo fun b2=> ?_;refine U6 ?_;refine .c rfl rfl rfl rfl (fun H hs=> .h (hop H hs.base)) ?_;refine U3 ?_;refine .al fun b6=> ?_;refine U15 ?_;refine .c rfl rfl rfl rfl (fun H hs=> .h (isB (isNumber_c M H s (by omega)) h1)) ?_;refine U9 ?_;refine .c rfl rfl rfl rfl (fun H hs=> .h (isB (clashes_c M H k A lc (hk.rows.le hs.base) hn.nl s) h2)) ?_;refine U9 ?_;refine .c rfl rfl rfl rfl (fun H hs=> .h (safe_c M H k A lc B tc (hk.le hs.base) hn ha s hdg hs2)) ?_;refine U3 ?_;refine .rt hK func56 results56 [_,_] ?_;exact okB
 · have ev:k.safeV s=.tuple ⟨[.bool false,.int .i64 k.alarm]⟩:=if_pos ha;rw[ev];refine .en func56 ntmps56 fun St c cs hK=> ?_;refine U2 ?_;refine .bo fun b2=> ?_;refine U6 ?_;refine .c rfl rfl rfl rfl (fun H hs=> .h (open_alarm M H k A lc B tc true (hk.le hs.base) hn (glob_le hG hs.base) ha)) ?_;refine U3 ?_;refine .al fun b6=> ?_;refine U18 ?_;refine .rt hK func56 results56 [_,_] ?_;exact okB
theorem taken_c(s:List UInt8)(hs1:s.all dig=true)(hs2:s.length≤1000):CallT M 45 #[strV s] H (fun v H'=> H.le H'∧v=.int .i64 (takenN s:Nat)):=by
 have hb:=takenN_le s hs1;refine .en func45 ntmps45 fun St c cs hK=> ?_;refine U12 ?_;refine .e (Or.rangeS (E:=en) (s:=⟨⟨s⟩⟩) rfl rfl rfl rfl rfl (by decide) (fun it=> ?_));refine U2 ?_;refine Tc.db (Tc.loopInv (σ:= { p:Nat//p≤s.length }) (fun p=> ([(3,.int .i64 (takenN (s.take p.1):Nat)),(7,.pointer (some ⟨it,0,none⟩))],[(it,true,.stringIter ⟨⟨s⟩⟩ p.1)])) (fun p=> s.length-p.1) ?_ ⟨0,Nat.zero_le _⟩);rintro⟨p,hp⟩ ih;show Tc M St _ _ _ _ [(3,.int .i64 (takenN (s.take p):Nat)),(7,.pointer (some ⟨it,0,none⟩))] [(it,true,.stringIter ⟨⟨s⟩⟩ p)] _ _;have hps0:takenN (s.take p)≤10*p:=by
   have h1:(s.take p).all dig=true:=List.all_eq_true.2 fun x hx=> List.all_eq_true.1 hs1 x (List.mem_of_mem_take hx);have h2:=takenN_le (s.take p) h1;rw[List.length_take] at h2;omega
 by_cases c1:p=s.length
 · subst c1;have hnp:¬s.length<(ByteArray.mk ⟨s⟩).size:=by show ¬s.length<s.length;omega
   rw[List.take_length];refine U2 ?_;refine .e (Or.nextS0 0 rfl rfl rfl hnp rfl (by decide) ?_);refine U10 ?_;refine .rt hK func45 results45 [_] ?_;exact okB
 · have c2:p<s.length:=by omega
   obtain⟨x,hx,hdx,hdec⟩:=dec_dig s p c2 hs1;have hpn:=pn_in hdx;have hps:p<(ByteArray.mk ⟨s⟩).size:=c2;have ha:intBin .add .i64 (takenN (s.take p):Nat) (pn x:Nat)=some (.int .i64 ((takenN (s.take (p+1)):Nat):Int)):=by
     rw[add_in (by omega) (by omega),takenN_at hx];rfl
   refine U2 ?_;refine .e (Or.nextS 0 rfl rfl rfl hps hdec rfl (by decide) ?_);refine U14 ?_;refine .c rfl rfl rfl rfl (fun H hs=> .h (pulses_c M H x hdx)) ?_;refine U4 ?_;exact Tc.db (ih ⟨p+1,by omega⟩ (by simp only;omega))
def pulsesV(s:List UInt8):Value:=if isNum s=false then .tuple ⟨[.int .i64 0,.int .i64 3]⟩ else .tuple ⟨[.int .i64 (takenN s:Nat),.int .i64 0]⟩
theorem Pulses_c(s:List UInt8)(hs2:s.length≤1000):CallT M 13 #[strV s] H (fun v H'=> H.le H'∧v=pulsesV s):=by
 cases h1:isNum s with
 | false=>
   have ev:pulsesV s=.tuple ⟨[.int .i64 0,.int .i64 3]⟩:=if_pos h1;rw[ev];refine .en func13 ntmps13 fun St c cs hK=> ?_;refine U9 ?_;refine .c rfl rfl rfl rfl (fun H hs=> .h (isB (isNumber_c M H s (by omega)) h1)) ?_;refine U8 ?_;refine .rt hK func13 results13 [_,_] ?_;exact okB
 | true=>
   have hdg:s.all dig=true:=by
     unfold isNum at h1;simp only[Bool.and_eq_true] at h1;exact h1.2
   have ev:pulsesV s=.tuple ⟨[.int .i64 (takenN s:Nat),.int .i64 0]⟩:=if_neg (by simp[h1]);rw[ev];refine .en func13 ntmps13 fun St c cs hK=> ?_;refine U9 ?_;refine .c rfl rfl rfl rfl (fun H hs=> .h (isB (isNumber_c M H s (by omega)) h1)) ?_;refine U7 ?_;refine .c rfl rfl rfl rfl (fun H hs=> .h (taken_c M H s hdg hs2)) ?_;refine U3 ?_;refine .rt hK func13 results13 [_,_] ?_;exact okB
end
def allFrom(dg:List UInt8):Nat→List UInt8→List (List UInt8)
 | 0,s=> [s]
 | d+1,s=> dg.flatMap fun x=> allFrom dg d (s++[x])
def allL(dg:List UInt8)(many:Nat):List (List UInt8):=allFrom dg many []
theorem allFrom_drop(dg:List UInt8)(d:Nat)(s:List UInt8){p:Nat}{x:UInt8}(h:dg[p]? =some x):(dg.drop p).flatMap (fun x=> allFrom dg d (s++[x]))=allFrom dg d (s++[x])++(dg.drop (p+1)).flatMap (fun x=> allFrom dg d (s++[x])):=by
 obtain⟨hp,rfl⟩:=List.getElem?_eq_some_iff.1 h;rw[List.drop_eq_getElem_cons hp,List.flatMap_cons]
def allF(b1 b2:Nat):Value:=.func (.func 225) #[] #[.pointer (some ⟨b1,0,none⟩),.pointer (some ⟨b2,0,none⟩)]
def moreF(b1 b3 b2 b4:Nat):Value:=.func (.func 226) #[] #[.pointer (some ⟨b1,0,none⟩),.pointer (some ⟨b3,0,none⟩),.pointer (some ⟨b2,0,none⟩),.pointer (some ⟨b4,0,none⟩)]
structure CapA(many:Nat)(dg:List UInt8)(b1 b2:Nat)(H:View):Prop where
 a:∃f,H b1=some (f,.cells ⟨[.int .i64 (many:Nat)]⟩ 3 (0,0))
 b:∃f,H b2=some (f,.cells ⟨[strV dg]⟩ 9 (0,0))
theorem CapA.le {many:Nat}{dg:List UInt8}{b1 b2:Nat}(H H':View)(h:H.le H')(c:CapA many dg b1 b2 H):CapA many dg b1 b2 H':=⟨c.a.imp fun _ e=> h _ _ e,c.b.imp fun _ e=> h _ _ e⟩
def moreB(l b1 b2 b3 b4:Nat):Bl:= [(b4,true,.cells ⟨[moreF b1 b3 b2 b4]⟩ 101 (0,0)),(b3,true,.cells ⟨[.func (.yield l) #[] #[]]⟩ 101 (0,0))]
section
variable(M:Md prog)(H:View)
theorem all_c(many:Nat)(dg:List UInt8):CallT M 139 #[.int .i64 (many:Nat),strV dg] H (fun v H'=> H.le H'∧∃b1 b2,v=allF b1 b2∧CapA many dg b1 b2 H'):=by
 refine .en func139 ntmps139 fun St c cs hK=> ?_;refine U2 ?_;refine .bo fun b2=> ?_;refine .bo fun b3=> ?_;refine U7 ?_;refine .rt hK func139 results139 [_] ?_;exact fun H' hs=> ⟨hs.base,b2,b3,rfl,⟨true,hs.get (i:=1) rfl⟩,⟨true,hs.get (i:=0) rfl⟩⟩
theorem more_c(many:Nat)(dg:List UInt8)(hm:many≤1000)(hdg:dg.all dig=true)(hdl:dg.length≤1000)(l b1 b2 b3 b4:Nat)(xs:List (List UInt8))(J:List (List UInt8)→View→Prop)(D:View→Prop)(hcap:∀rest H',J rest H'→CapA many dg b1 b2 H')
   (hy:∀x rest (_:Unit) H' H'',x∈xs→J (x::rest) H'→SymSt H' [] H''→FnT M (.func (.yield l) #[] #[]) [strV x] H'' fun v H3=> (v=.bool true∧∃H₂,SymSt H₂ [] H3∧J rest H₂)∨(v=.bool false∧D H3)):
   ∀ (d:Nat) (s:List UInt8) (rest:List (List UInt8)) (H₁ Hc:View),s.length+d=many→J (allFrom dg d s++rest) H₁→(∀x∈allFrom dg d s,x∈xs)→SymSt H₁ (moreB l b1 b2 b3 b4) Hc→
     CallT M 226 #[strV s,.pointer (some ⟨b1,0,none⟩),.pointer (some ⟨b3,0,none⟩),.pointer (some ⟨b2,0,none⟩),.pointer (some ⟨b4,0,none⟩)] Hc (fun v H3=> (v=.bool true∧∃H₂,SymSt H₂ (moreB l b1 b2 b3 b4) H3∧J rest H₂)∨(v=.bool false∧∃H₂,H₂.le H3∧D H₂)):=by
 intro d;induction d with
 | zero=>
   intro s rest H₁ Hc hsd hJ hin hsy;obtain⟨⟨fa,ha⟩,⟨fb,hb⟩⟩:=hcap _ _ hJ;refine CallT.enter (vs:= [strV s,.pointer (some ⟨b1,0,none⟩),.pointer (some ⟨b3,0,none⟩),.pointer (some ⟨b2,0,none⟩),.pointer (some ⟨b4,0,none⟩)]) func226 rfl ntmps226 (Nat.le_of_ble_eq_true rfl) (hsy) fun St c cs hK=> ?_;unfold moreB;refine U17 ?_;refine To.callF rfl rfl rfl rfl rfl rfl (by decide) (hy s rest () H₁ H₁ (hin s (by simp[allFrom])) hJ (SymSt.nil H₁)) (fun v H₃ hv=> ?_);rcases hv with ⟨rfl,H4,h8,j3⟩|⟨rfl,hD⟩
   · refine To.lower h8.base ?_;refine U2 ?_;refine .rt hK func226 results226 [_] ?_;exact fun H' hs=> .inl ⟨rfl,H4,hs,j3⟩
   · refine U2 ?_;refine .rt hK func226 results226 [_] ?_;exact fun H' hs=> .inr ⟨rfl,H₃,hs.base,hD⟩
 | succ d ihd=>
   intro s rest H₁ Hc hsd hJ hin hsy;obtain⟨⟨fa,ha⟩,⟨fb,hb⟩⟩:=hcap _ _ hJ;refine CallT.enter (vs:= [strV s,.pointer (some ⟨b1,0,none⟩),.pointer (some ⟨b3,0,none⟩),.pointer (some ⟨b2,0,none⟩),.pointer (some ⟨b4,0,none⟩)]) func226 rfl ntmps226 (Nat.le_of_ble_eq_true rfl) (hsy) fun St c cs hK=> ?_;unfold moreB;refine U18 ?_;refine .e (Or.rangeS (E:=en) (s:=⟨⟨dg⟩⟩) rfl rfl rfl rfl rfl (by decide) (fun it=> ?_));refine U2 ?_;refine Tc.db (Tc.loopB (σ:= { x:Nat×View//x.1≤dg.length∧J ((dg.drop x.1).flatMap (fun y=> allFrom dg d (s++[y]))++rest) x.2 })
     (fun x=> (x.1.2,[(0,strV s),(1,.pointer (some ⟨b1,0,none⟩)),(2,.pointer (some ⟨b3,0,none⟩)),(3,.pointer (some ⟨b2,0,none⟩)),(4,.pointer (some ⟨b4,0,none⟩)),(16,.pointer (some ⟨it,0,none⟩))],[(it,true,.stringIter ⟨⟨dg⟩⟩ x.1.1),(b4,true,.cells ⟨[moreF b1 b3 b2 b4]⟩ 101 (0,0)),(b3,true,.cells ⟨[.func (.yield l) #[] #[]]⟩ 101 (0,0))])) (fun x=> dg.length-x.1.1) ?_ ⟨(0,H₁),Nat.zero_le _,hJ⟩)
   rintro⟨⟨p,H₂⟩,g1,j1⟩ ih;simp only at g1 j1;show Tc M St _ _ H₂ _ [(0,strV s),(1,.pointer (some ⟨b1,0,none⟩)),(2,.pointer (some ⟨b3,0,none⟩)),(3,.pointer (some ⟨b2,0,none⟩)),(4,.pointer (some ⟨b4,0,none⟩)),(16,.pointer (some ⟨it,0,none⟩))] [(it,true,.stringIter ⟨⟨dg⟩⟩ p),(b4,true,.cells ⟨[moreF b1 b3 b2 b4]⟩ 101 (0,0)),(b3,true,.cells ⟨[.func (.yield l) #[] #[]]⟩ 101 (0,0))] _ _;by_cases c1:p=dg.length
   · subst c1;have hnp:¬dg.length<(ByteArray.mk ⟨dg⟩).size:=by show ¬dg.length<dg.length;omega
     rw[List.drop_length] at j1;refine U2 ?_;refine .e (Or.nextS0 0 rfl rfl rfl hnp rfl (by decide) ?_);refine U9 ?_;refine .rt hK func226 results226 [_] ?_;exact fun H' hs=> .inl ⟨rfl,H₂,hs.less (by apply List.Sublist.cons;exact List.Sublist.refl _),j1⟩
   · have c2:p<dg.length:=by omega
     obtain⟨x,hx,hdx,hdec⟩:=dec_dig dg p c2 hdg;have hps:p<(ByteArray.mk ⟨dg⟩).size:=c2;obtain⟨⟨fa,ha⟩,⟨fb,hb⟩⟩:=hcap _ _ j1;rw[allFrom_drop dg d s hx,List.append_assoc] at j1;have hin2:∀y∈allFrom dg d (s++[x]),y∈xs:=fun y hyy=> hin y (List.mem_flatMap.2 ⟨x,List.mem_of_getElem? hx,hyy⟩);have e2:(dg.drop ((p:Nat):Int).toNat).take ((((p:Nat):Int)+1).toNat-((p:Nat):Int).toNat)= [x]:=by
       rw[show(((p:Nat):Int)+1).toNat-((p:Nat):Int).toNat=1 by omega,Int.toNat_natCast];obtain⟨hp',rfl⟩:=List.getElem?_eq_some_iff.1 hx;rw[List.drop_eq_getElem_cons hp'];rfl
     refine U2 ?_;refine .e (Or.nextS 0 rfl rfl rfl hps hdec rfl (by decide) ?_);refine U12 ?_;refine Tc.drC [] [8] [] mixed rfl ?_;refine .oo 0 ?_;refine .oo 1 ?_;refine .oo 2 ?_;refine .oo 3 ?_;refine .oo 4 ?_;refine .oo 5 ?_;refine Ta.tkC 6 (by kernel_rfl) rfl rfl (by decide) rfl rfl (OpV.take (OpV.sliceS (E:=en) rfl rfl rfl rfl rfl rfl (by omega) (by omega) (by omega))) ?_;refine Ta.tkC 7 (by kernel_rfl) rfl rfl (by decide) rfl rfl (OpV.take (OpV.strB rfl rfl rfl (by exact strB_add (by simp <;> omega)))) ?_;rw[e2];refine Ta.lift (L₂:= [(it,true,.stringIter ⟨⟨dg⟩⟩ (p+1))]) (L₁:=moreB l b1 b2 b3 b4) rfl (fun Hx hx1=> ?_);refine Ta.callF 8 (by kernel_rfl) rfl (by kernel_rfl) rfl rfl rfl rfl rfl rfl (by decide) (FnT.of (first:= []) (captured:= [_,_,_,_]) ca226 rfl (ihd (s++[x]) _ H₂ Hx (by rw[List.length_append];show s.length+1+d=many;omega) j1 hin2 hx1)) (fun v H₃ hv=> ?_);rcases hv with ⟨rfl,H4,h8,j3⟩|⟨rfl,H4,hl4,hD⟩
     · refine Ta.expand h8 ?_;unfold moreB;refine Ta.each [9] (by kernel_rfl) rfl ⟨TaOp.mk rfl rfl rfl (Or.ofV .nt rfl (by decide) ⟨S3.off (by kernel_rfl),?_⟩),trivial⟩;refine .dn ?_;refine U3 ?_;exact Tc.db (ih ⟨(p+1,H4),by simp only;omega,j3⟩ (by simp only;omega))
     · refine Ta.each [9] (by kernel_rfl) rfl ⟨TaOp.mk rfl rfl rfl (Or.ofV .nt rfl (by decide) ⟨S3.off (by kernel_rfl),?_⟩),trivial⟩;refine .dn ?_;refine U5 ?_;refine .rt hK func226 results226 [_] ?_;exact fun H' hs=> .inr ⟨rfl,H4,View.le_trans hl4 hs.base,hD⟩
theorem all_it(many:Nat)(dg:List UInt8)(hm:many≤1000)(hdg:dg.all dig=true)(hdl:dg.length≤1000)(b1 b2:Nat):
   IterT M (allF b1 b2) (allL dg many) (fun x (_:Unit)=> [strV x]) (fun _ _=> []) (fun _ _=> []) (CapA many dg b1 b2) [] H:=fun l J D hcap h0 hy H₀ hs₀=> by
 refine FnT.of (first:= []) (captured:= [_,_]) ca225 rfl ?_;refine CallT.enter (vs:= [.func (.yield l) #[] #[],.pointer (some ⟨b1,0,none⟩),.pointer (some ⟨b2,0,none⟩)]) func225 rfl ntmps225 (Nat.le_of_ble_eq_true rfl) (hs₀) fun St c cs hK=> ?_;refine U2 ?_;refine .bo fun b3=> ?_;refine U3 ?_;refine .al fun b4=> ?_;refine U8 ?_;refine To.lift (L₂:= []) (L₁:=moreB l b1 b2 b3 b4) rfl (fun Hx hx=> ?_);refine To.callF rfl rfl rfl rfl rfl rfl (by decide) (FnT.of (first:= []) (captured:= [_,_,_,_]) ca226 rfl (more_c M many dg hm hdg hdl l b1 b2 b3 b4 (allL dg many) J D hcap (fun x rest e H' H'' h1 h2 h3=> hy x rest e H' H'' h1 h2 h3) many [] [] H Hx (Nat.zero_add _) (by rw[List.append_nil];exact h0) (fun x hx=> hx) hx)) (fun v H₃ hv=> ?_);refine U ?_;refine .ov hK func225 results225 [] ?_;intro H' hs;rcases hv with ⟨_,H4,h8,j3⟩|⟨_,H4,hl4,hD⟩
 · exact⟨H4,View.le_trans h8.base hs.base,.inl j3⟩
 · exact⟨H4,View.le_trans hl4 hs.base,.inr hD⟩
end
theorem mem_allFrom {dg:List UInt8}:∀(d:Nat) (s x:List UInt8),x∈allFrom dg d s→x.length=s.length+d∧∀y∈x,y∈s∨y∈dg
 | 0,s,x,h=> by
   have:x=s:=by simpa [allFrom] using h
   subst this;exact⟨rfl,fun y hy=> .inl hy⟩
 | d + 1,s,x,h=> by
   obtain⟨z,hz,h2⟩:=List.mem_flatMap.1 h;obtain⟨h3,h4⟩:=mem_allFrom d _ x h2;refine⟨by rw[h3,List.length_append];show s.length+1+d=_;omega,fun y hy=> ?_⟩;rcases h4 y hy with h5|h5
   · rcases List.mem_append.1 h5 with h6|h6
     · exact .inl h6
     · have:y=z:=by simpa using h6
       subst this;exact .inr hz
   · exact .inr h5
theorem mem_allL {dg:List UInt8}{n:Nat}{x:List UInt8}(h:x∈allL dg n):x.length=n∧∀y∈x,y∈dg:=by
 obtain⟨h1,h2⟩:=mem_allFrom n [] x h;exact⟨by simpa using h1,fun y hy=> (h2 y hy).resolve_left (by simp)⟩
theorem digs_dig:digs.all dig=true:=by decide +kernel
def Bk.spareOk(k:Bk)(sf:Bool)(x:List UInt8):Bool:=!k.clash x&&(!sf||k.safe x)
def Bk.spare(k:Bk)(n:Nat)(sf:Bool):Option (List UInt8):=(allL digs n).find? (k.spareOk sf)
def spare3(x:List UInt8)(t:Bool)(a:Int):Value:=.tuple ⟨[strV x,.bool t,.int .i64 a]⟩
def Bk.spareV(k:Bk)(z:Int)(sf:Bool):Value:=
 if k.alarm≠0 then spare3 [] false k.alarm else if ¬(1≤z∧z≤3) then spare3 [] false 1 else match k.spare z.toNat sf with
   | some x=> spare3 x true 0
   | none=> spare3 [] false 0
section
variable(M:Md prog)(H:View)
theorem Spare_c(k:Bk)(A:Option Addr)(lc:Nat)(B:Option Addr)(tc:Nat)(hk:BkAt H k A lc B tc)(hn:k.small)(hG:Glob H)(z:Int)(sf:Bool):
   CallT M 57 #[k.val A lc B tc,.int .i64 z,.bool sf] H (fun v H'=> H.le H'∧v=k.spareV z sf):=by
 by_cases ha:k.alarm=0
 · have hop:=fun(H':View) (h':H.le H')=> open_yes M H' k A lc B tc (hk.le h') hn (glob_le hG h') ha;by_cases c1:1≤z∧z≤3
   · obtain ⟨n,rfl⟩:∃n:Nat,z=n:=⟨z.toNat,by omega⟩
     have ev:k.spareV (n:Nat) sf=match k.spare n sf with
         | some x=> spare3 x true 0
         | none=> spare3 [] false 0:=by
       unfold Bk.spareV;rw[if_neg (by simp[ha]),if_neg (fun h=> h c1)];rfl
     have hbt:=fun(H':View)=> between_is M H' ((n:Nat):Int) 1 3 true (decide_eq_true c1);refine .en func57 ntmps57 fun St c cs hK=> ?_;refine U2 ?_;refine .bo fun b3=> ?_;refine .bo fun b5=> ?_;refine .al fun b6=> ?_;refine .al fun b7=> ?_;refine .al fun b8=> ?_;refine U4 ?_;refine .c rfl rfl rfl rfl (fun H hs=> .h (hop H hs.base)) ?_;refine U3 ?_;refine .al fun b9=> ?_;refine U15 ?_;refine .c rfl rfl rfl rfl (fun H hs=> .h (hbt H)) ?_;refine U10 ?_;refine To.callF rfl rfl rfl rfl rfl rfl (by decide) (FnT.h (all_c M H n digs)) (fun v H₁ hv=> ?_);obtain⟨hle1,a1,a2,rfl,hcap⟩:=hv;refine U ?_;have hit:=fun(H':View) (_:CapA n digs a1 a2 H')=> all_it M H' n digs (by omega) digs_dig (by decide) a1 a2;refine U ?_;refine Tc.db (R':= [(3,.pointer (some ⟨b3,0,none⟩)),(5,.pointer (some ⟨b5,0,none⟩)),(6,.pointer (some ⟨b6,0,none⟩)),(7,.pointer (some ⟨b7,0,none⟩)),(8,.pointer (some ⟨b8,0,none⟩)),(9,.pointer (some ⟨b9,0,none⟩)),(25,allF a1 a2)])
       (L':= [(b9,true,.cells ⟨(k.val A lc B tc).cells.toList⟩ 166 (0,0)),(b8,true,.cells ⟨[.int .i64 0]⟩ 25 (0,0)),(b7,true,.cells ⟨[.bool false]⟩ 4 (0,0)),(b6,true,.cells ⟨[strV []]⟩ 9 (0,0)),(b5,true,.cells ⟨[.bool sf]⟩ 4 (0,0)),(b3,true,.cells ⟨(k.val A lc B tc).cells.toList⟩ 45 (0,0))]) ?_
     refine Tc.rangeL (A:= []) (ts:= [26]) (xs:=allL digs n) (fun rest H₄ L₄=> L₄= [(b9,true,.cells ⟨(k.val A lc B tc).cells.toList⟩ 166 (0,0)),(b8,true,.cells ⟨[.int .i64 0]⟩ 25 (0,0)),(b7,true,.cells ⟨[.bool false]⟩ 4 (0,0)),(b6,true,.cells ⟨[strV []]⟩ 9 (0,0)),(b5,true,.cells ⟨[.bool sf]⟩ 4 (0,0)),(b3,true,.cells ⟨(k.val A lc B tc).cells.toList⟩ 45 (0,0))]
         ∧k.spare n sf=rest.find? (k.spareOk sf)∧CapA n digs a1 a2 H₄∧H₁.le H₄)
         (fun j H₄ L₄=> ∃x,L₄= [(b9,true,.cells ⟨(k.val A lc B tc).cells.toList⟩ 166 (0,0)),(b8,true,.cells ⟨[.int .i64 0]⟩ 25 (0,0)),(b7,true,.cells ⟨[.bool true]⟩ 4 (0,0)),(b6,true,.cells ⟨[strV x]⟩ 9 (0,0)),(b5,true,.cells ⟨[.bool sf]⟩ 4 (0,0)),(b3,true,.cells ⟨(k.val A lc B tc).cells.toList⟩ 45 (0,0))]∧j=.ret∧k.spare n sf=some x∧H₁.le H₄)
         rfl rfl rfl rfl hit (fun _ _=> CapA.le _ _) (fun _ _ _ ⟨_,_,h,_⟩=> h) rfl (fun _ _=> rfl) ⟨rfl,rfl,hcap,View.le_refl _⟩ ?_ ?_ ?_
     · rintro r x rest _ l tmps asg bdy H₄ _ hx ⟨rfl,q2,q3,q4⟩ Q St1 cc1 cs1 hK1 q q';have hle4:=View.le_trans hle1 q4;obtain⟨hxl,hxd⟩:=mem_allL hx;have hxdig:x.all dig=true:=List.all_eq_true.2 fun y hy=> List.all_eq_true.1 digs_dig y (hxd y hy);have hcl:=fun(H':View) (h':H₄.le H')=> clashes_c M H' k A lc (hk.rows.le (View.le_trans hle4 h')) hn.nl x;have hsf:=fun(H':View) (h':H₄.le H')=> safe_c M H' k A lc B tc (hk.le (View.le_trans hle4 h')) hn ha x hxdig (by omega);rw[List.find?_cons] at q2;cases h1:k.clash x with
       | true=>
         have e1:k.spareOk sf x=false:=by unfold Bk.spareOk;rw[h1];rfl
         rw[e1] at q2;rw[h1] at hcl;refine U3 ?_;refine Tc.beginRound (i:=0) rfl rfl rfl ?_;refine U4 ?_;refine .x (.ld 7) ?_;refine U ?_;refine .c rfl rfl rfl rfl (fun H hs=> .h (hcl H hs.base)) ?_;refine U5 ?_;refine To.skippedU rfl (by decide) rfl ?_;refine To.skippedU rfl (by decide) rfl ?_;refine To.skippedU rfl (by decide) rfl ?_;refine U6 ?_;refine Tc.leaveRound hK1 (i:=0) rfl (.inl ⟨rfl,rfl⟩) (fun H' hs=> q H' H₄ _ hs ⟨rfl,q2,q3,q4⟩)
       | false=>
         rw[h1] at hcl;cases sf with
         | false=>
           have e1:k.spareOk false x=true:=by unfold Bk.spareOk;rw[h1];rfl
           rw[e1] at q2;refine U3 ?_;refine Tc.beginRound (i:=0) rfl rfl rfl ?_;refine U4 ?_;refine .x (.ld 7) ?_;refine U ?_;refine .c rfl rfl rfl rfl (fun H hs=> .h (hcl H hs.base)) ?_;refine U19 ?_;refine Tc.leaveRound hK1 (i:=0) rfl (.inr (.inl ⟨_,rfl,rfl⟩)) (fun H' hs=> q' H' H₄ _ _ hs ⟨x,rfl,rfl,q2,q4⟩)
         | true=>
           cases h2:k.safe x with
           | true=>
             have e1:k.spareOk true x=true:=by unfold Bk.spareOk;rw[h1,h2];rfl
             rw[e1] at q2;rw[h2] at hsf;refine U3 ?_;refine Tc.beginRound (i:=0) rfl rfl rfl ?_;refine U4 ?_;refine .x (.ld 7) ?_;refine U ?_;refine .c rfl rfl rfl rfl (fun H hs=> .h (hcl H hs.base)) ?_;refine U7 ?_;refine .c rfl rfl rfl rfl (fun H hs=> .h (hsf H hs.base)) ?_;refine U11 ?_;refine Tc.leaveRound hK1 (i:=0) rfl (.inr (.inl ⟨_,rfl,rfl⟩)) (fun H' hs=> q' H' H₄ _ _ hs ⟨x,rfl,rfl,q2,q4⟩)
           | false=>
             have e1:k.spareOk true x=false:=by unfold Bk.spareOk;rw[h1,h2];rfl
             rw[e1] at q2;rw[h2] at hsf;refine U3 ?_;refine Tc.beginRound (i:=0) rfl rfl rfl ?_;refine U4 ?_;refine .x (.ld 7) ?_;refine U ?_;refine .c rfl rfl rfl rfl (fun H hs=> .h (hcl H hs.base)) ?_;refine U7 ?_;refine .c rfl rfl rfl rfl (fun H hs=> .h (hsf H hs.base)) ?_;refine U6 ?_;refine Tc.leaveRound hK1 (i:=0) rfl (.inl ⟨rfl,rfl⟩) (fun H' hs=> q H' H₄ _ hs ⟨rfl,q2,q3,q4⟩)
     · rintro r H₄ _ ⟨rfl,q2,q3,q4⟩;have e1:k.spare n sf=none:=q2;rw[ev,e1] at hK;refine U7 ?_;refine Tc.retD (E:=en) (i:=0) hK func57 results57 (vs:= [_,_,_]) rfl (by refine⟨⟨4,_,_,_,_,_,_,_,rfl,rfl,rfl,rfl⟩,?_⟩;refine⟨⟨3,_,_,_,_,_,_,_,rfl,rfl,rfl,rfl⟩,?_⟩;refine⟨⟨2,_,_,_,_,_,_,_,rfl,rfl,rfl,rfl⟩,?_⟩;exact trivial) ?_;exact fun H' hs=> ⟨View.le_trans hle1 (View.le_trans q4 hs.base),rfl⟩
     · rintro r j H₄ _ ⟨x,rfl,rfl,q2,q4⟩;rw[ev,q2] at hK;refine Tc.retD (E:=en) (i:=0) hK func57 results57 (vs:= [_,_,_]) rfl (by refine⟨⟨4,_,_,_,_,_,_,_,rfl,rfl,rfl,rfl⟩,?_⟩;refine⟨⟨3,_,_,_,_,_,_,_,rfl,rfl,rfl,rfl⟩,?_⟩;refine⟨⟨2,_,_,_,_,_,_,_,rfl,rfl,rfl,rfl⟩,?_⟩;exact trivial) ?_;exact fun H' hs=> ⟨View.le_trans hle1 (View.le_trans q4 hs.base),rfl⟩
   · have ev:k.spareV z sf=spare3 [] false 1:=by
       unfold Bk.spareV;rw[if_neg (by simp[ha]),if_pos c1]
     have hbt:=fun(H':View)=> between_is M H' z 1 3 false (decide_eq_false c1);rw[ev];refine .en func57 ntmps57 fun St c cs hK=> ?_;refine U2 ?_;refine .bo fun b3=> ?_;refine .bo fun b5=> ?_;refine .al fun b6=> ?_;refine .al fun b7=> ?_;refine .al fun b8=> ?_;refine U4 ?_;refine .c rfl rfl rfl rfl (fun H hs=> .h (hop H hs.base)) ?_;refine U3 ?_;refine .al fun b9=> ?_;refine U15 ?_;refine .c rfl rfl rfl rfl (fun H hs=> .h (hbt H)) ?_;refine U10 ?_;refine .rt hK func57 results57 [_,_,_] ?_;exact okB
 · have ev:k.spareV z sf=spare3 [] false k.alarm:=if_pos ha;rw[ev];refine .en func57 ntmps57 fun St c cs hK=> ?_;refine U2 ?_;refine .bo fun b3=> ?_;refine .bo fun b5=> ?_;refine .al fun b6=> ?_;refine .al fun b7=> ?_;refine .al fun b8=> ?_;refine U4 ?_;refine .c rfl rfl rfl rfl (fun H hs=> .h (open_alarm M H k A lc B tc true (hk.le hs.base) hn (glob_le hG hs.base) ha)) ?_;refine U3 ?_;refine .al fun b9=> ?_;refine U13 ?_;refine Tc.drE [3] [1,2,3] [2,3] mixed rfl ?_;refine .nn 0 ?_;refine Ta.each [1] (by kernel_rfl) rfl ⟨TaOp.mk rfl rfl rfl (.st 3 (zz:=⟨S2.mk (by apply List.Sublist.cons_cons;apply List.Sublist.cons;apply List.Sublist.cons;apply List.Sublist.cons;exact List.Sublist.refl _) (.inr (by apply List.Sublist.cons_cons;apply List.Sublist.cons_cons;apply List.Sublist.cons;apply List.Sublist.cons;exact List.Sublist.refl _)),?_⟩)),trivial⟩;refine Ta.each [2] (by kernel_rfl) rfl ⟨TaOp.mk rfl rfl rfl (.st 2 (zz:=⟨S2.mk (by apply List.Sublist.cons_cons;apply List.Sublist.cons;apply List.Sublist.cons;apply List.Sublist.cons;exact List.Sublist.refl _) (.inr (by apply List.Sublist.cons_cons;apply List.Sublist.cons_cons;apply List.Sublist.cons;apply List.Sublist.cons;exact List.Sublist.refl _)),?_⟩)),trivial⟩;refine .e 3 1 ?_;refine .dn ?_;refine .rt hK func57 results57 [_,_,_] ?_;exact okB
end
end Go.Proofs.YtldmfjcgjdchcaaGreatDoor
namespace Go.RL
open Go.Conc
section
variable {P:Program}{E:Env P}{M:Md P}{n:Nat}{H₀:View}{R:Rg}{L:Bl}{o:Oper}{K:Rg→Bl→Prop}{d:Nat}
theorem Gl.bl_nodup {e:TypeId}{sz:Nat}(g:Gl e sz):(g.bl.map (·.1)).Nodup:=by
 unfold Gl.bl;split <;> simp
theorem Or.appendK(k:Nat){cl:Go.Call}{x y:Operand}{t xt e:TypeId}{sz m:Nat}{yv:Value}{new:List Value}{g:Gl e sz}{r re rx:TyRow}{ex:TypeId}(hop:o.op=.call cl)(hcl:cl.callee=.builtin .append)(hat:cl.argTypes=#[t,xt])(har:cl.args=#[x,y])
   (hx:evR R x=some g.val) (hy:evR R y=some yv) (ht:E.ty t=some r) (hds:r.ds=.slice e) (hre:E.ty e=some re) (hsz:re.size=sz) (hzs:Nat.beq re.zero.cells.toList.length sz=true) (hxt:E.ty xt=some rx) (hex:rx.ds=.slice ex) (hby:Nat.ble re.bytes 1000=true)
   (hL:L.drop k=g.bl) (hsrc:∀H,SymSt H₀ L H→SrcAt H sz yv m new) (hs:new.all single=true) (hm:g.n+m≤1000000000) (hd:o.dst=some d) (hn:d<n)
   (hk1:∀g':Gl e sz,g'.n=g.n+m→g'.l=g.l++new→g'.blk=g.blk→g'.cap=g.cap→K ((d,g'.val)::R) (L.take k++g'.bl))
   (hk2:∀g':Gl e sz,g'.n=g.n+m→g'.l=g.l++new→K ((d,g'.val)::R) (L++g'.bl)):Or M n H₀ R L o K:=
 .val hd hn fun H tmps hst hr=> by
   have hLe:L=L.take k++g.bl:=by rw[←hL,List.take_append_drop]
   have hst0:=hst;unfold execOp;rw[hop];simp only[resolve,hcl,hat,har];have hm':Array.map (evT tmps) #[x,y]=#[g.val,yv]:=by simp[hr.ev hx,hr.ev hy]
   rw[hm'];rw[hLe] at hst;refine vwp_bind (Builtin.append_ #[t,xt] o.type #[g.val,yv]) _ ?_;refine vwp_appendC ht hds hre hsz (Nat.eq_of_beq_eq_true hzs) ⟨rx,ex,hxt,hex⟩ (Nat.le_of_ble_eq_true hby) hm (fun z hz=> hst.at_ z (by simp[hz])) (hsrc H hst0) hs fun g' H' h1 h2 h3 h4 h5=> ?_;cases hb:g'.blk with
   | none=>
     have hbl:g'.bl= []:=by unfold Gl.bl;rw[hb]
     have hHH:H'=H:=funext fun c=> h4 c (fun b hbb=> by rw[hb] at hbb;cases hbb);subst hHH;refine⟨_,rfl,L,hst0,?_⟩;have:=hk2 g' h1 h2
     rwa [hbl,List.append_nil] at this
   | some b=>
     rcases h3 b hb with ⟨h6,h7⟩|h6
     · exact⟨_,rfl,_,hst.grown (fun b hbb=> (h3 b hbb).imp And.left id) h4 h5,hk1 g' h1 h2 (hb.trans h6.symm) h7⟩
     · have hbl:g'.bl= [(b,true,.cells ⟨g'.l++g'.junk⟩ e (0,0))]:=by unfold Gl.bl;rw[hb]
       have hle:H.le H':=fun c z hc=> by
         rw[h4 c (fun b' hb'=> by
           rw[hb] at hb';cases hb'
           rintro rfl;rw[h6] at hc;cases hc)]
         exact hc
       refine⟨_,rfl,_,hst0.more hle g'.bl_nodup (fun y hy=> ⟨h5 y hy,?_⟩),hk2 g' h1 h2⟩;rw[hbl,List.mem_singleton] at hy;subst hy;exact h6
end
end Go.RL
namespace Go.Proofs.YtldmfjcgjdchcaaGreatDoor
open Go.RL Go.Proofs.Tryz
set_option maxRecDepth 10000
set_option maxHeartbeats 16000000
def StrsAt(H:View)(F:Option Addr)(n:Nat)(x:Nat→List UInt8):Prop:=
 n=0∨∃b o f gs gt gz,F=some ⟨b,o,none⟩∧H b=some (f,.cells ⟨gs⟩ gt gz)∧∀j:Nat,j<n→ldL false 1 gs (o+(j:Int).toNat*1)=some (strV (x j))
theorem StrsAt.le {H H':View}{F:Option Addr}{n:Nat}{x:Nat→List UInt8}(h:StrsAt H F n x)(k:H.le H'):StrsAt H' F n x:=
 h.imp id fun⟨b,o,f,gs,gt,gz,h1,h2,h3⟩=> ⟨b,o,f,gs,gt,gz,h1,k _ _ h2,h3⟩
def weightOk(x:Int):Bool:=decide (0≤x∧x≤99)
section
variable(M:Md prog)(H:View)
theorem IndexI_c(F:Option Addr)(n fc:Nat)(x:Nat→Int)(hF:FreeAt H F n x)(hn:n≤1000000)(fv:Value)(p:Nat→Bool)(hp:∀j,j<n→∀H',H.le H'→FnT M fv [.int .i64 (x j)] H' fun v H''=> H'.le H''∧v=.bool (p j)):
   CallT M 187 #[.slice F n fc,fv] H (fun v H'=> H.le H'∧v=.int .i64 (firstI (firstTo p n))):=by
 refine .en func187 ntmps187 fun St c cs hK=> ?_;refine U12 ?_;refine Tc.db (Tc.loopInv (σ:= { j:Nat//j≤n∧firstTo p j=none }) (fun j=> ([(0,.slice F n fc),(1,fv),(7,.int .i64 (n:Nat)),(8,.int .i64 (j.1:Nat))],[])) (fun j=> n-j.1) ?_ ⟨0,Nat.zero_le _,rfl⟩);rintro⟨j,hj,hno⟩ ih;show Tc M St _ _ _ _ [(0,.slice F n fc),(1,fv),(7,.int .i64 (n:Nat)),(8,.int .i64 (j:Nat))] [] _ _;by_cases c1:j=n
 · subst c1;rw[hno] at hK;refine U11 ?_;refine .rt hK func187 results187 [_] ?_;exact okB
 · have c2:j<n:=by omega
   obtain h0|⟨ab,ao,f,gs,gt,gz,rfl,hb,hl⟩:=hF
   · omega
   have f1:=hl j c2;have hpj:=hp j c2;cases hpp:p j with
   | true=>
     rw[hpp] at hpj;have e:firstTo p n=some j:=firstTo_stays (j:=j+1) (by simp[firstTo,hno,hpp]) _ (by omega);rw[e] at hK;refine U21 ?_;refine .c rfl rfl rfl rfl (fun H hs=> hpj H hs.base) ?_;refine U7 ?_;refine .rt hK func187 results187 [_] ?_;exact okB
   | false=>
     rw[hpp] at hpj;refine U21 ?_;refine .c rfl rfl rfl rfl (fun H hs=> hpj H hs.base) ?_;refine U8 ?_;exact Tc.db (ih ⟨j+1,by omega,by simp[firstTo,hno,hpp]⟩ (by simp only;omega))
theorem ContainsI_c(F:Option Addr)(n fc:Nat)(x:Nat→Int)(hF:FreeAt H F n x)(hn:n≤1000000)(fv:Value)(p:Nat→Bool)(hp:∀j,j<n→∀H',H.le H'→FnT M fv [.int .i64 (x j)] H' fun v H''=> H'.le H''∧v=.bool (p j)):
   CallT M 112 #[.slice F n fc,fv] H (fun v H'=> H.le H'∧v=.bool (firstTo p n).isSome):=by
 have hi:=fun(H':View) (h':H.le H')=> IndexI_c M H' F n fc x (hF.le h') hn fv p (fun j hj H'' h''=> hp j hj H'' (View.le_trans h' h''));cases hq:firstTo p n with
 | none=>
   rw[hq] at hi;have e:firstI none= -1:=rfl;rw[e] at hi;refine .en func112 ntmps112 fun St c cs hK=> ?_;refine U8 ?_;refine .c rfl rfl rfl rfl (fun H hs=> .h (hi H hs.base)) ?_;refine U3 ?_;refine .rt hK func112 results112 [_] ?_;exact okB
 | some j=>
   rw[hq] at hi;have e:firstI (some j)=(j:Nat):=rfl;rw[e] at hi;refine .en func112 ntmps112 fun St c cs hK=> ?_;refine U8 ?_;refine .c rfl rfl rfl rfl (fun H hs=> .h (hi H hs.base)) ?_;refine U3 ?_;refine .rt hK func112 results112 [_] ?_;exact okB
theorem IndexS_c(F:Option Addr)(n fc:Nat)(x:Nat→List UInt8)(hF:StrsAt H F n x)(hn:n≤1000000)(fv:Value)(p:Nat→Bool)(hp:∀j,j<n→∀H',H.le H'→FnT M fv [strV (x j)] H' fun v H''=> H'.le H''∧v=.bool (p j)):
   CallT M 227 #[.slice F n fc,fv] H (fun v H'=> H.le H'∧v=.int .i64 (firstI (firstTo p n))):=by
 refine .en func227 ntmps227 fun St c cs hK=> ?_;refine U12 ?_;refine Tc.db (Tc.loopInv (σ:= { j:Nat//j≤n∧firstTo p j=none }) (fun j=> ([(0,.slice F n fc),(1,fv),(7,.int .i64 (n:Nat)),(8,.int .i64 (j.1:Nat))],[])) (fun j=> n-j.1) ?_ ⟨0,Nat.zero_le _,rfl⟩);rintro⟨j,hj,hno⟩ ih;show Tc M St _ _ _ _ [(0,.slice F n fc),(1,fv),(7,.int .i64 (n:Nat)),(8,.int .i64 (j:Nat))] [] _ _;by_cases c1:j=n
 · subst c1;rw[hno] at hK;refine U11 ?_;refine .rt hK func227 results227 [_] ?_;exact okB
 · have c2:j<n:=by omega
   obtain h0|⟨ab,ao,f,gs,gt,gz,rfl,hb,hl⟩:=hF
   · omega
   have f1:=hl j c2;have hpj:=hp j c2;cases hpp:p j with
   | true=>
     rw[hpp] at hpj;have e:firstTo p n=some j:=firstTo_stays (j:=j+1) (by simp[firstTo,hno,hpp]) _ (by omega);rw[e] at hK;refine U21 ?_;refine .c rfl rfl rfl rfl (fun H hs=> hpj H hs.base) ?_;refine U7 ?_;refine .rt hK func227 results227 [_] ?_;exact okB
   | false=>
     rw[hpp] at hpj;refine U21 ?_;refine .c rfl rfl rfl rfl (fun H hs=> hpj H hs.base) ?_;refine U8 ?_;exact Tc.db (ih ⟨j+1,by omega,by simp[firstTo,hno,hpp]⟩ (by simp only;omega))
theorem ContainsS_c(F:Option Addr)(n fc:Nat)(x:Nat→List UInt8)(hF:StrsAt H F n x)(hn:n≤1000000)(fv:Value)(p:Nat→Bool)(hp:∀j,j<n→∀H',H.le H'→FnT M fv [strV (x j)] H' fun v H''=> H'.le H''∧v=.bool (p j)):
   CallT M 144 #[.slice F n fc,fv] H (fun v H'=> H.le H'∧v=.bool (firstTo p n).isSome):=by
 have hi:=fun(H':View) (h':H.le H')=> IndexS_c M H' F n fc x (hF.le h') hn fv p (fun j hj H'' h''=> hp j hj H'' (View.le_trans h' h''));cases hq:firstTo p n with
 | none=>
   rw[hq] at hi;have e:firstI none= -1:=rfl;rw[e] at hi;refine .en func144 ntmps144 fun St c cs hK=> ?_;refine U8 ?_;refine .c rfl rfl rfl rfl (fun H hs=> .h (hi H hs.base)) ?_;refine U3 ?_;refine .rt hK func144 results144 [_] ?_;exact okB
 | some j=>
   rw[hq] at hi;have e:firstI (some j)=(j:Nat):=rfl;rw[e] at hi;refine .en func144 ntmps144 fun St c cs hK=> ?_;refine U8 ?_;refine .c rfl rfl rfl rfl (fun H hs=> .h (hi H hs.base)) ?_;refine U3 ?_;refine .rt hK func144 results144 [_] ?_;exact okB
theorem weightBad_c(x:Int):CallT M 140 #[.int .i64 x] H (fun v H'=> H.le H'∧v=.bool (!weightOk x)):=by
 cases h:weightOk x with
 | true=>
   refine .en func140 ntmps140 fun St c cs hK=> ?_;refine U7 ?_;refine .c rfl rfl rfl rfl (fun H hs=> .h (between_is M H x 0 99 true h)) ?_;refine U3 ?_;refine .rt hK func140 results140 [_] ?_;exact okB
 | false=>
   refine .en func140 ntmps140 fun St c cs hK=> ?_;refine U7 ?_;refine .c rfl rfl rfl rfl (fun H hs=> .h (between_is M H x 0 99 false h)) ?_;refine U3 ?_;refine .rt hK func140 results140 [_] ?_;exact okB
theorem near_c(s:List UInt8)(b:Nat)(f:Bool)(hb:H b=some (f,.cells ⟨[strV s]⟩ 9 (0,0)))(o:List UInt8):
   CallT M 145 #[strV o,.pointer (some ⟨b,0,none⟩)] H (fun v H'=> H.le H'∧v=.bool (clash1 o s)):=by
 cases h1:begins o s with
 | true=>
   have e:clash1 o s=true:=by unfold clash1;rw[h1];rfl
   rw[e];refine .en func145 ntmps145 fun St c cs hK=> ?_;refine U8 ?_;refine .c rfl rfl rfl rfl (fun H hs=> .h (HasPrefix_is M H o s true h1)) ?_;refine U7 ?_;refine .rt hK func145 results145 [_] ?_;exact okB
 | false=>
   have e:clash1 o s=begins s o:=by unfold clash1;rw[h1];rfl
   rw[e];refine .en func145 ntmps145 fun St c cs hK=> ?_;refine U8 ?_;refine .c rfl rfl rfl rfl (fun H hs=> .h (HasPrefix_is M H o s false h1)) ?_;refine U3 ?_;refine .c rfl rfl rfl rfl (fun H hs=> .h (HasPrefix_c M H s o)) ?_;refine U3 ?_;refine .rt hK func145 results145 [_] ?_;exact okB
end
def strsV(l:List (List UInt8)):List Value:=l.map strV
theorem strsV_len(l:List (List UInt8)):(strsV l).length=l.length:=by simp[strsV]
theorem strsV_app(l m:List (List UInt8)):strsV (l++m)=strsV l++strsV m:=by simp[strsV]
theorem strsV_single(l:List (List UInt8)):(strsV l).all single=true:=by
 rw[List.all_eq_true];intro x hx;obtain⟨s,_,rfl⟩:=List.mem_map.1 hx;rfl
def allB2(many:Nat)(dg:List UInt8)(s: { p:Nat×Nat//p.1≠p.2 }):Bl:= [(s.1.1,true,.cells ⟨[.int .i64 (many:Nat)]⟩ 3 (0,0)),(s.1.2,true,.cells ⟨[strV dg]⟩ 9 (0,0))]
theorem allB2_nodup(many:Nat)(dg:List UInt8)(s: { p:Nat×Nat//p.1≠p.2 }):((allB2 many dg s).map (·.1)).Nodup:=by
 obtain⟨⟨a,b⟩,h⟩:=s;simp only[allB2,List.map_cons,List.map_nil,List.nodup_cons,List.mem_singleton,List.not_mem_nil,not_false_eq_true,List.nodup_nil,and_true];exact h
section
variable(M:Md prog)(H:View)
theorem all_n(many:Nat)(dg:List UInt8):CallT M 139 #[.int .i64 (many:Nat),strV dg] H (fun v H'=> H.le H'∧∃s: { p:Nat×Nat//p.1≠p.2 },v=allF s.1.1 s.1.2∧True∧∀y∈allB2 many dg s,H' y.1=some y.2∧H y.1=none):=by
 refine .en func139 ntmps139 fun St c cs hK=> ?_;refine U2 ?_;refine .bo fun b2=> ?_;refine .bo fun b3=> ?_;refine U7 ?_;refine .rt hK func139 results139 [_] ?_;intro H' hs;have hnd:=hs.nodup;have hne:b2≠b3:=by
   simp only[List.map_cons,List.map_nil,List.nodup_cons,List.mem_singleton] at hnd;exact fun e=> hnd.1 e.symm
 refine⟨hs.base,⟨(b2,b3),hne⟩,rfl,trivial,fun y hy=> ?_⟩;have hy':y=(b2,true,.cells ⟨[.int .i64 (many:Nat)]⟩ 3 (0,0))∨y=(b3,true,.cells ⟨[strV dg]⟩ 9 (0,0)):=by simpa [allB2] using hy
 rcases hy' with rfl|rfl
 · exact⟨hs.get (i:=1) rfl,hs.out _ (List.mem_cons_of_mem _ (List.mem_cons_self ..))⟩
 · exact⟨hs.get (i:=0) rfl,hs.out _ (List.mem_cons_self ..)⟩
def SeqQ(H₁:View)(g:Gl 9 1)(l xs:List (List UInt8))(v:Value)(H3:View):Prop:=
 ∃(g':Gl 9 1) (H₂:View),v=g'.val∧H₁.le H₂∧SymSt H₂ g'.bl H3∧g'.l=strsV (l++xs)∧g'.n=g.n+xs.length
theorem AppendSeq_c(g:Gl 9 1)(l:List (List UInt8))(hg:g.l=strsV l)(hgn:g.n≤100000)(many:Nat)(dg:List UInt8)(hm:many≤1000)(hdg:dg.all dig=true)(hdl:dg.length≤1000)(hal:(allL dg many).length≤100000)(a1 a2:Nat)(H₁ Hc:View)(hcap:CapA many dg a1 a2 H₁)(hsy:SymSt H₁ g.bl Hc):
   CallT M 141 #[g.val,allF a1 a2] Hc (SeqQ H₁ g l (allL dg many)):=by
 have hit:=fun(H':View) (_:CapA many dg a1 a2 H')=> all_it M H' many dg hm hdg hdl a1 a2;refine CallT.enter (vs:= [g.val,allF a1 a2]) func141 rfl ntmps141 (Nat.le_of_ble_eq_true rfl) (hsy) fun St c cs hK=> ?_;refine U2 ?_;refine .bo fun b2=> ?_;refine U8 ?_;refine Tc.db (R':= [(2,.pointer (some ⟨b2,0,none⟩)),(6,allF a1 a2)]) (L':= [(b2,true,.cells ⟨[g.val]⟩ 107 (0,0))]++g.bl) ?_;refine Tc.rangeL (A:= []) (ts:= [7]) (xs:=allL dg many) (fun rest H₄ L₄=> ∃(g':Gl 9 1) (dn:List (List UInt8)),L₄= [(b2,true,.cells ⟨[g'.val]⟩ 107 (0,0))]++g'.bl∧g'.l=strsV (l++dn)∧g'.n=g.n+dn.length∧dn++rest=allL dg many∧CapA many dg a1 a2 H₄∧H₁.le H₄) (fun _ _ _=> False) rfl rfl rfl rfl hit (fun _ _=> CapA.le _ _) (fun _ _ _ ⟨_,_,_,_,_,_,h,_⟩=> h) rfl (fun _ _=> rfl)
     ⟨g,[],rfl,by rw[List.append_nil];exact hg,rfl,rfl,hcap,View.le_refl _⟩ ?_ ?_ (fun _ _ _ _ h=> h.elim)
 · rintro r x rest _ lp tmps asg bdy H₄ _ hx ⟨g',dn,rfl,q1,q2,q3,q4,q5⟩ Q St1 cc1 cs1 hK1 q q';have hdl2:dn.length≤100000:=by
     have:=congrArg List.length q3;rw[List.length_append] at this;omega
   refine U3 ?_;refine Tc.beginRound (i:=0) rfl rfl rfl ?_;refine U4 ?_;refine .e (.bs (zz:=fun bs=> ?_));refine .e (Or.append (E:=en) 4 rfl rfl rfl rfl rfl rfl rfl rfl rfl rfl rfl rfl rfl rfl rfl (fun H hs=> SrcAt.of (hs.get (i:=0) rfl) (Nat.le_of_ble_eq_true rfl)) rfl (by omega) rfl (by decide) (fun g2 hn2 hl2=> ?_));refine U3 ?_;refine Tc.leaveRound hK1 (i:=1) rfl (.inl ⟨rfl,rfl⟩) (fun H' hs=> q H' H₄ _ (hs.less (by apply List.Sublist.cons;exact List.Sublist.refl _)) ⟨g2,dn++[x],rfl,by rw[hl2,q1,←List.append_assoc,strsV_app (l++dn) [x]];rfl,by rw[hn2,q2,List.length_append];rfl,by rw[List.append_assoc];exact q3,q4,q5⟩)
 · rintro r H₄ _ ⟨g',dn,rfl,q1,q2,q3,q4,q5⟩;rw[List.append_nil] at q3;subst q3;refine U6 ?_;refine Tc.retD (E:=en) (i:=0) hK func141 results141 (vs:= [_]) rfl ⟨rfl,trivial⟩ ?_;exact fun H' hs=> ⟨g',H₄,rfl,q5,hs.less (by apply List.Sublist.cons;apply List.Sublist.cons;exact List.Sublist.refl _),q1,q2⟩
theorem cloneS_c(a:Option Addr)(m ca:Nat)(l:List Value)(hm:m≤100000)(hs0:SrcAt H 1 (.slice a m ca) m l)(h1:l.all single=true):CallT M 143 #[.slice a m ca] H (fun v H'=> H.le H'∧∃g:Gl 9 1,v=g.val∧(g.l=l∧g.n=m)∧∀x∈g.bl,H' x.1=some x.2∧H x.1=none):=by
 refine .en func143 ntmps143 fun St c cs hK=> ?_;cases a with
 | none=>
   refine U8 ?_;refine .x (OpV.eqNil (E:=en) rfl rfl rfl rfl rfl) ?_;refine U6 ?_;refine .rt hK func143 results143 [_] ?_;obtain⟨_,h2,h3|⟨b,off,_,_,_,_,_,h3,_⟩⟩:=hs0
   · obtain⟨_,_,_,rfl⟩:=h3;have:m=0:=by simp at h2;omega
     subst this;exact fun H' hs'=> ⟨hs'.base,Gl.nil 9 1,rfl,⟨rfl,rfl⟩,by simp[Gl.nil,Gl.bl]⟩
   · cases h3
 | some a=>
   refine U8 ?_;refine .x (OpV.eqNil (E:=en) rfl rfl rfl rfl rfl) ?_;refine U5 ?_;refine .e (.bs (zz:=fun bs=> ?_));refine U ?_;refine .e (Or.append (E:=en) (g:=Gl.emp 9 1 bs) 0 rfl rfl rfl rfl rfl rfl rfl rfl rfl rfl rfl rfl rfl rfl rfl (fun H' hs'=> hs0.mono hs'.base) h1 (by show 0+m≤_;omega) rfl (by decide) (fun g' hn hl=> ?_));refine U2 ?_;refine .rt hK func143 results143 [_] ?_;exact fun H' hs'=> ⟨hs'.base,g',rfl,⟨by rw[hl];rfl,by rw[hn];show 0+m=m;omega⟩,fun x hx=> ⟨hs'.at_ x hx,hs'.out x hx⟩⟩
end
end Go.Proofs.YtldmfjcgjdchcaaGreatDoor
namespace Go.RL
open Go.Conc
section
variable {P:Program}{M:Md P}{St:View→Goroutine→Prop}{n:Nat}{b:FB}{H₀:View}{cs:List Frame}{R:Rg}{L L₁:Bl}{ds:List Deferred}{k:List Item}{md:Region.Mode}{ops:Array Oper}{S:Array Bool→View→Prop}{fuel:Nat}{listed:Array Bool}
theorem Ta.permL(p:L₁.Perm L)(h:Ta M St n b H₀ cs S md ops fuel listed R L₁ ds k):Ta M St n b H₀ cs S md ops fuel listed R L ds k:=fun H tmps hs=> h H tmps (hs.perm p)
end
end Go.RL
