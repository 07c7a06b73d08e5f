/-
  Texts of the proofs over baudot/dial: KA KB KC C9 S9 H1 DV VWt2 VRun.
-/
import Derived.Test.YtldmfjcgjdchcaaGreatDoorQ07
namespace Go.Proofs.YtldmfjcgjdchcaaGreatDoor
open Go.RL Go.Proofs.Tryz
set_option maxRecDepth 10000
set_option maxHeartbeats 16000000
structure Pte(a b i j:Nat)(u:List Int):Prop where
 ai:a+1≤i
 ij:i≤j+1
 jb:j<b
 aj:a≤j
 lo:∀k,a<k→k<i→at0 u k≤at0 u a
 hi:∀k,j<k→k<b→at0 u a<at0 u k
theorem Pte.start {a b:Nat}{u:List Int}(h:a<b):Pte a b (a+1) (b-1) u:=⟨Nat.le_refl _,by omega,by omega,by omega,fun k h1 h2=> by omega,fun k h1 h2=> by omega⟩
theorem Pte.up {a b i j:Nat}{u:List Int}(h:Pte a b i j u)(hij:i≤j)(hle:¬at0 u a<at0 u i):Pte a b (i+1) j u:=
 ⟨by have:=h.ai;omega,by omega,h.jb,h.aj,fun k h1 h2=> by
   by_cases e:k=i
   · rw[e];omega
   · exact h.lo k h1 (by omega),h.hi⟩
theorem Pte.down {a b i j:Nat}{u:List Int}(h:Pte a b i j u)(hij:i≤j)(hlt:at0 u a<at0 u j):Pte a b i (j-1) u:=
 ⟨h.ai,by omega,by have:=h.jb;omega,by have:=h.ai;omega,h.lo,fun k h1 h2=> by
   by_cases e:k=j
   · rw[e];exact hlt
   · exact h.hi k (by omega) h2⟩
theorem Pte.swap {a b i j:Nat}{u:List Int}(h:Pte a b i j u)(hl:b≤u.length)(hij:i≤j)(h1:at0 u a<at0 u i)(h2:¬at0 u a<at0 u j):i<j∧Pte a b (i+1) (j-1) (swapL u i j)∧at0 (swapL u i j) a=at0 u a:=by
 have ha:=h.ai;have hb:=h.jb;have hne:i≠j:=by
   rintro rfl;omega
 have hs:=fun q=> swapL_at (l:=u) (p:=i) (q:=j) (by omega) (by omega) q;have h0:at0 (swapL u i j) a=at0 u a:=by rw[hs,if_neg (by omega),if_neg (by omega)]
 refine⟨by omega,⟨by omega,by omega,by omega,by omega,fun k h3 h4=> ?_,fun k h3 h4=> ?_⟩,h0⟩
 · rw[h0,hs,if_neg (by omega)];by_cases e:k=i
   · rw[if_pos e];omega
   · rw[if_neg e];exact h.lo k h3 (by omega)
 · rw[h0,hs];by_cases e:k=j
   · rw[if_pos e];exact h1
   · rw[if_neg e,if_neg (by omega)];exact h.hi k (by omega) h4
structure EqPart(a b c:Nat)(x:Int)(u:List Int):Prop where
 ac:a<c
 cb:c≤b
 lo:∀k,a≤k→k<c→at0 u k≤x
 hi:∀k,c≤k→k<b→x<at0 u k
theorem Pte.fin {a b i j:Nat}{u:List Int}(h:Pte a b i j u)(hij:j<i){x:Int}(hx:at0 u a=x):EqPart a b i x u:=by
 have h1:=h.ij;have h2:=h.ai;have h3:=h.jb;exact⟨by omega,by omega,fun k g1 g2=> by
   by_cases e:k=a
   · rw[e,hx];exact Int.le_refl _
   · rw[←hx];exact h.lo k (by omega) g2,fun k g1 g2=> by rw[←hx];exact h.hi k (by omega) g2⟩
section
variable(M:Md prog)(H:View)
theorem partEqS_c(dec:Int→List UInt8)(sb:Nat)(l:List Int)(jj:List Value)(n cap a b pv:Nat)(hn:n=l.length)(hE:Enc dec l)(hb:b≤n)(h1000:n≤100000000)(hp:a≤pv∧pv<b)(hS:H sb=some (true,.cells ⟨(strsL dec l)++jj⟩ 9 (0,0))):
   CallT M 263 #[.slice (some ⟨sb,0,none⟩) n cap,.int .i64 (a:Nat),.int .i64 (b:Nat),.int .i64 (pv:Nat)] H (SortSQ dec H sb jj (fun v m=> ∃s:Nat×List Int,v=.int .i64 (s.1:Nat)∧m=s.2∧(Turned a b l s.2∧EqPart a b s.1 (at0 l pv) s.2))):=by
 refine CallT.enter (vs:= [.slice (some ⟨sb,0,none⟩) n cap,.int .i64 (a:Nat),.int .i64 (b:Nat),.int .i64 (pv:Nat)]) func263 rfl ntmps263 (Nat.le_of_ble_eq_true rfl) (SymSt.pull hS) fun St c cs hK=> ?_;have hx0:at0 (swapL l a pv) a=at0 l pv:=by
   rw[swapL_at (by omega) (by omega)];by_cases e:a=pv
   · rw[if_pos e,e]
   · rw[if_neg e,if_pos rfl]
 have hu:Turned a b l (swapL l a pv):=Turned.swap (by omega) (by omega) (by omega) (by omega);have eb:((b:Nat):Int)-1=((b-1:Nat):Int):=by omega
 have ea:intBin .add .i64 (a:Nat) 1=some (.int .i64 ((a+1:Nat):Int)):=by rw[add_in (by omega) (by omega)];rfl
 have y1:=cellsS_ld (dec:=dec) (m:=l) (j:=jj) (k:=(a:Nat)) (p:=a) rfl (by omega);have y2:=cellsS_ld (dec:=dec) (m:=l) (j:=jj) (k:=(pv:Nat)) (p:=pv) rfl (by omega);have y3:=cellsS_st (dec:=dec) (m:=l) (j:=jj) (k:=(a:Nat)) (x:=at0 l (pv)) (p:=a) rfl (by omega);have y4:=cellsS_st (dec:=dec) (m:=(l).set (a) (at0 l (pv))) (j:=jj) (k:=(pv:Nat)) (x:=at0 l (a)) (p:=pv) rfl (by rw[List.length_set];omega);have y5:=cellsS_le (dec:=dec) (m:=l) (j:=jj) (k:=(a:Nat)) (p:=a) rfl (by omega);have y6:=cellsS_le (dec:=dec) (m:=(l).set (a) (at0 l (pv))) (j:=jj) (k:=(pv:Nat)) (p:=pv) rfl (by rw[List.length_set];omega);refine U5 ?_;refine Tc.dr [13,15] [0] mixed rfl ?_;refine .nn 0 ?_;refine .nn 1 ?_;refine .nw 2 ?_;refine .nw 3 ?_;refine .nn 4 ?_;refine .nn 5 ?_;refine .nn 6 ?_;refine .nn 7 ?_;refine .nw 8 ?_;refine .nw 9 ?_;refine .nw 10 ?_;refine .nn 11 ?_;refine .nn 12 ?_;refine .e 13 0 ?_;refine .nw 14 ?_;refine .e 15 0 ?_;refine .dn ?_;refine U9 ?_;rw[eb];refine U2 ?_;refine Tc.db (Tc.loopInv (σ:= { s:Nat×Nat×List Int//Pte a b s.1 s.2.1 s.2.2∧Turned a b l s.2.2∧at0 s.2.2 a=at0 l pv }) (fun s=> ([(0,.slice (some ⟨sb,0,none⟩) n cap),(1,.int .i64 (a:Nat)),(9,.int .i64 (s.1.1:Nat)),(10,.int .i64 (s.1.2.1:Nat))],[(sb,true,.cells ⟨(strsL dec s.1.2.2)++jj⟩ 9 (0,0))])) (fun s=> s.1.2.1+1-s.1.1) ?_
   ⟨(a+1,b-1,swapL l a pv),Pte.start (by omega),hu,hx0⟩)
 clear y1 y2 y3 y4 y5 y6 hx0 hu;rintro⟨⟨i,j,w⟩,g1,g2,g3⟩ ih0;simp only at g1 g2 g3;have hwl:=g2.len;have hEw:=hE.turned g2;have g1a:=g1.ai;have g1b:=g1.ij;have g1c:=g1.jb;show Tc M St _ _ _ _ [(0,.slice (some ⟨sb,0,none⟩) n cap),(1,.int .i64 (a:Nat)),(9,.int .i64 (i:Nat)),(10,.int .i64 (j:Nat))] [(sb,true,.cells ⟨(strsL dec w)++jj⟩ 9 (0,0))] _ _;have za:=cellsS_ld (dec:=dec) (m:=w) (j:=jj) (k:=(a:Nat)) (p:=a) rfl (by omega);refine U2 ?_;refine blockVia (fun R' L'=> ∃s,i≤s∧Pte a b s j w∧(s≤j→at0 w a<at0 w s)∧AllIn [(0,.slice (some ⟨sb,0,none⟩) n cap),(1,.int .i64 (a:Nat)),(9,.int .i64 (s:Nat)),(10,.int .i64 (j:Nat))] R'∧L'= [(sb,true,.cells ⟨(strsL dec w)++jj⟩ 9 (0,0))]) ?_ (fun fin=> ?_)
 · rintro R' _ ⟨i2,i2le,p1,x1,hRR,rfl⟩;refine Tc.dropB ?_ hRR (List.Sublist.refl _);have p1a:=p1.ai;have p1b:=p1.ij;have p1c:=p1.jb;refine U ?_;refine blockVia (fun R' L'=> ∃s,s≤j∧Pte a b i2 s w∧(i2≤s→¬at0 w a<at0 w s)∧AllIn [(0,.slice (some ⟨sb,0,none⟩) n cap),(1,.int .i64 (a:Nat)),(9,.int .i64 (i2:Nat)),(10,.int .i64 (s:Nat))] R'∧L'= [(sb,true,.cells ⟨(strsL dec w)++jj⟩ 9 (0,0))]) ?_ (fun fin=> ?_)
   · rintro R' _ ⟨j2,j2le,p2,x2,hRR,rfl⟩;refine Tc.dropB ?_ hRR (List.Sublist.refl _);have p2a:=p2.ai;have p2b:=p2.ij;have p2c:=p2.jb;have p2d:=p2.aj;by_cases d:j2<i2
     · refine U14 ?_;refine .rt hK func263 results263 [_] ?_;exact fun H' hs=> SortSQ.of (dec:=dec) hs (i:=0) rfl ⟨(i2,w),rfl,rfl,g2,p2.fin d g3⟩
     · obtain⟨w1,w2,w3⟩:=p2.swap (by omega) (by omega) (x1 (by omega)) (x2 (by omega));have e2:((j2:Nat):Int)-1=((j2-1:Nat):Int):=by omega
       have ei:intBin .add .i64 (i2:Nat) 1=some (.int .i64 ((i2+1:Nat):Int)):=by rw[add_in (by omega) (by omega)];rfl
       refine U10 ?_;have z1:=cellsS_ld (dec:=dec) (m:=w) (j:=jj) (k:=(i2:Nat)) (p:=i2) rfl (by omega);have z2:=cellsS_ld (dec:=dec) (m:=w) (j:=jj) (k:=(j2:Nat)) (p:=j2) rfl (by omega);have z3:=cellsS_st (dec:=dec) (m:=w) (j:=jj) (k:=(i2:Nat)) (x:=at0 w (j2)) (p:=i2) rfl (by omega);have z4:=cellsS_st (dec:=dec) (m:=(w).set (i2) (at0 w (j2))) (j:=jj) (k:=(j2:Nat)) (x:=at0 w (i2)) (p:=j2) rfl (by rw[List.length_set];omega);have z5:=cellsS_le (dec:=dec) (m:=w) (j:=jj) (k:=(i2:Nat)) (p:=i2) rfl (by omega);have z6:=cellsS_le (dec:=dec) (m:=(w).set (i2) (at0 w (j2))) (j:=jj) (k:=(j2:Nat)) (p:=j2) rfl (by rw[List.length_set];omega);refine Tc.dr [13,15] [0] mixed rfl ?_;refine .nn 0 ?_;refine .nn 1 ?_;refine .nw 2 ?_;refine .nw 3 ?_;refine .nn 4 ?_;refine .nn 5 ?_;refine .nn 6 ?_;refine .nn 7 ?_;refine .nw 8 ?_;refine .nw 9 ?_;refine .nw 10 ?_;refine .nn 11 ?_;refine .nn 12 ?_;refine .e 13 0 ?_;refine .nw 14 ?_;refine .e 15 0 ?_;refine .dn ?_;refine U11 ?_;rw[e2];refine U ?_;exact Tc.db (ih0 ⟨(i2+1,j2-1,swapL w i2 j2),w2,g2.trans (Turned.swap (by omega) (by omega) (by omega) (by omega)),w3.trans g3⟩ (by simp only;omega))
   · refine Tc.db (Tc.loopInv (σ:= { s:Nat//s≤j∧Pte a b i2 s w }) (fun s=> ([(0,.slice (some ⟨sb,0,none⟩) n cap),(1,.int .i64 (a:Nat)),(9,.int .i64 (i2:Nat)),(10,.int .i64 (s.1:Nat))],[(sb,true,.cells ⟨(strsL dec w)++jj⟩ 9 (0,0))])) (fun s=> s.1) ?_ ⟨j,Nat.le_refl _,p1⟩);rintro⟨s,q1,q2⟩ ih;have q3:=q2.ai;have q4:=q2.ij;have q5:=q2.jb;show Tc M St _ _ _ _ [(0,.slice (some ⟨sb,0,none⟩) n cap),(1,.int .i64 (a:Nat)),(9,.int .i64 (i2:Nat)),(10,.int .i64 (s:Nat))] [(sb,true,.cells ⟨(strsL dec w)++jj⟩ 9 (0,0))] _ _;by_cases c1:i2≤s
     · have zs:=cellsS_ld (dec:=dec) (m:=w) (j:=jj) (k:=(s:Nat)) (p:=s) rfl (by omega);have es:((s:Nat):Int)-1=((s-1:Nat):Int):=by omega
       by_cases c2:at0 w a<at0 w s
       · refine U2 ?_;refine Tc.dr [] [] mixed rfl ?_;refine .nn 0 ?_;refine .nn 1 ?_;refine .nn 2 ?_;refine .nn 3 ?_;refine .nn 4 ?_;refine .nn 5 ?_;refine .nn 6 ?_;refine .nn 7 ?_;refine .nn 8 ?_;refine .nn 9 ?_;refine .nn 10 ?_;refine .nn 11 ?_;refine .z 12 rfl (OpV.takeCall rfl rfl rfl rfl (fun H hs=> .h (lessS M H hEw (at0_mem (by omega)) (at0_mem (by omega)) true (decide_eq_true c2)))) ?_;refine .nn 13 ?_;refine .dn ?_;refine U8 ?_;rw[es];refine U ?_;exact Tc.db (ih ⟨s-1,by omega,q2.down c1 c2⟩ (by simp only;omega))
       · repeat (refine Tc.seq ?_)
         refine Tc.dr [] [] mixed rfl ?_;refine .nn 0 ?_;refine .nn 1 ?_;refine .nn 2 ?_;refine .nn 3 ?_;refine .nn 4 ?_;refine .nn 5 ?_;refine .nn 6 ?_;refine .nn 7 ?_;refine .nn 8 ?_;refine .nn 9 ?_;refine .nn 10 ?_;refine .nn 11 ?_;refine .z 12 rfl (OpV.takeCall rfl rfl rfl rfl (fun H hs=> .h (lessS M H hEw (at0_mem (by omega)) (at0_mem (by omega)) false (decide_eq_false c2)))) ?_;refine .nn 13 ?_;refine .dn ?_;refine U2 ?_;exact fin _ _ ⟨s,q1,q2,fun _=> c2,⟨rfl,rfl,rfl,rfl,trivial⟩,rfl⟩
     · repeat (refine Tc.seq ?_)
       refine Tc.dr [] [] mixed rfl ?_;refine .nn 0 ?_;refine .nn 1 ?_;refine .nn 2 ?_;refine .nn 3 ?_;refine .nw 4 ?_;refine .nw 5 ?_;refine .nw 6 ?_;refine .nw 7 ?_;refine .nw 8 ?_;refine .nw 9 ?_;refine .nw 10 ?_;refine .nw 11 ?_;refine .nw 12 ?_;refine .nn 13 ?_;refine .dn ?_;refine U2 ?_;exact fin _ _ ⟨s,q1,q2,fun h=> (c1 h).elim,⟨rfl,rfl,rfl,rfl,trivial⟩,rfl⟩
 · refine Tc.db (Tc.loopInv (σ:= { s:Nat//i≤s∧Pte a b s j w }) (fun s=> ([(0,.slice (some ⟨sb,0,none⟩) n cap),(1,.int .i64 (a:Nat)),(9,.int .i64 (s.1:Nat)),(10,.int .i64 (j:Nat))],[(sb,true,.cells ⟨(strsL dec w)++jj⟩ 9 (0,0))])) (fun s=> j+1-s.1) ?_ ⟨i,Nat.le_refl _,g1⟩);rintro⟨s,q1,q2⟩ ih;have q3:=q2.ai;have q4:=q2.ij;have q5:=q2.jb;show Tc M St _ _ _ _ [(0,.slice (some ⟨sb,0,none⟩) n cap),(1,.int .i64 (a:Nat)),(9,.int .i64 (s:Nat)),(10,.int .i64 (j:Nat))] [(sb,true,.cells ⟨(strsL dec w)++jj⟩ 9 (0,0))] _ _;by_cases c1:s≤j
   · have zs:=cellsS_ld (dec:=dec) (m:=w) (j:=jj) (k:=(s:Nat)) (p:=s) rfl (by omega);have es:intBin .add .i64 (s:Nat) 1=some (.int .i64 ((s+1:Nat):Int)):=by rw[add_in (by omega) (by omega)];rfl
     by_cases c2:at0 w a<at0 w s
     · repeat (refine Tc.seq ?_)
       refine Tc.dr [] [] mixed rfl ?_;refine .nn 0 ?_;refine .nn 1 ?_;refine .nn 2 ?_;refine .nn 3 ?_;refine .nn 4 ?_;refine .nn 5 ?_;refine .nn 6 ?_;refine .nn 7 ?_;refine .nn 8 ?_;refine .nn 9 ?_;refine .nn 10 ?_;refine .nn 11 ?_;refine .z 12 rfl (OpV.takeCall rfl rfl rfl rfl (fun H hs=> .h (lessS M H hEw (at0_mem (by omega)) (at0_mem (by omega)) true (decide_eq_true c2)))) ?_;refine .nn 13 ?_;refine .nn 14 ?_;refine .dn ?_;refine U2 ?_;exact fin _ _ ⟨s,q1,q2,fun _=> c2,⟨rfl,rfl,rfl,rfl,trivial⟩,rfl⟩
     · refine U2 ?_;refine Tc.dr [] [] mixed rfl ?_;refine .nn 0 ?_;refine .nn 1 ?_;refine .nn 2 ?_;refine .nn 3 ?_;refine .nn 4 ?_;refine .nn 5 ?_;refine .nn 6 ?_;refine .nn 7 ?_;refine .nn 8 ?_;refine .nn 9 ?_;refine .nn 10 ?_;refine .nn 11 ?_;refine .z 12 rfl (OpV.takeCall rfl rfl rfl rfl (fun H hs=> .h (lessS M H hEw (at0_mem (by omega)) (at0_mem (by omega)) false (decide_eq_false c2)))) ?_;refine .nn 13 ?_;refine .nn 14 ?_;refine .dn ?_;refine U9 ?_;exact Tc.db (ih ⟨s+1,by omega,q2.up c1 c2⟩ (by simp only;omega))
   · repeat (refine Tc.seq ?_)
     refine Tc.dr [] [] mixed rfl ?_;refine .nn 0 ?_;refine .nn 1 ?_;refine .nn 2 ?_;refine .nn 3 ?_;refine .nw 4 ?_;refine .nw 5 ?_;refine .nw 6 ?_;refine .nw 7 ?_;refine .nw 8 ?_;refine .nw 9 ?_;refine .nw 10 ?_;refine .nw 11 ?_;refine .nw 12 ?_;refine .nw 13 ?_;refine .nn 14 ?_;refine .dn ?_;refine U2 ?_;exact fin _ _ ⟨s,q1,q2,fun h=> (c1 h).elim,⟨rfl,rfl,rfl,rfl,trivial⟩,rfl⟩
end
def Glue(l:List Int)(a b a' b':Nat)(u:List Int):Prop:=∀m,Turned a' b' u m→Srt a' b' m→Turned a b l m∧Srt a b m
theorem Glue.turn {l u w:List Int}{a b a' b':Nat}(h:Glue l a b a' b' u)(k:Turned a' b' u w):Glue l a b a' b' w:=fun m h1 h2=> h m (k.trans h1) h2
theorem Ahead.left {a b c:Nat}{u:List Int}(h:Ahead a b u)(k:c≤b):Ahead a c u:=by
 rcases h with h|h
 · exact .inl h
 · exact .inr fun i h1 h2=> h i h1 (by omega)
theorem Ahead.keep {a c b:Nat}{u w:List Int}(h:Ahead a c u)(k:Turned (c+1) b u w):Ahead a c w:=by
 rcases h with h|h
 · exact .inl h
 · refine .inr fun i h1 h2=> ?_;rw[k.out (a-1) (.inl (by omega)),k.out i (.inl (by omega))];exact h i h1 h2
theorem Glue.right {l u x:List Int}{a b a' b' c:Nat}(h:Glue l a b a' b' u)(k:Part a' b' c u)(hl:b'≤u.length)(h1:Turned a' c u x)(s1:Srt a' c x):Glue l a b (c+1) b' x:=fun m h2 s2=> by
 obtain⟨g1,g2⟩:=k.sorted hl h1 s1 h2 s2;exact h m g1 g2
theorem Glue.left {l u x:List Int}{a b a' b' c:Nat}(h:Glue l a b a' b' u)(k:Part a' b' c u)(hl:b'≤u.length)(h1:Turned (c+1) b' u x)(s1:Srt (c+1) b' x):Glue l a b a' c x:=fun m h2 s2=> by
 obtain⟨g1,g2⟩:=k.sorted2 hl h1 s1 h2 s2;exact h m g1 g2
theorem Part.ahead {a b c:Nat}{u x:List Int}(k:Part a b c u)(h1:Turned a c u x):Ahead (c+1) b x:=.inr fun i g1 g2=> by
 have e:c+1-1=c:=by omega
 rw[e];have h2:=k.hi i (by omega) g2;rw[←h1.out c (.inr (Nat.le_refl _)),←h1.out i (.inr (by omega))] at h2;exact h2
theorem EqPart.ahead {a b c:Nat}{x:Int}{w:List Int}(k:EqPart a b c x w):Ahead c b w:=.inr fun i g1 g2=> by
 have h1:=k.ac;have h2:=k.lo (c-1) (by omega) (by omega);have h3:=k.hi i g1 g2;omega
theorem Glue.eq {l u w:List Int}{a b a' b' c:Nat}{x:Int}(h:Glue l a b a' b' u)(k:EqPart a' b' c x w)(ht:Turned a' b' u w)(hge:∀i,a'≤i→i<b'→x≤at0 w i)(hl:b'≤w.length):Glue l a b c b' w:=fun m h1 s1=> by
 have c1:=k.ac;have c2:=k.cb;refine h m (ht.trans (h1.wide (by omega) (Nat.le_refl _))) fun p q g1 g2 g3=> ?_;have hlo:∀i,a'≤i→i<c→at0 m i=x:=fun i e1 e2=> by
   rw[h1.out i (.inl e2)];have e3:=k.lo i e1 e2;have e4:=hge i e1 (by omega);omega
 have hhi:∀i,c≤i→i<b'→x<at0 m i:=h1.all hl (P:=fun z=> x<z) k.hi;by_cases d1:q<c
 · rw[hlo p g1 (by omega),hlo q (by omega) d1];exact Int.le_refl _
 · by_cases d2:p<c
   · rw[hlo p g1 d2];have:=hhi q (by omega) g3;omega
   · exact s1 p q (by omega) g2 g3
theorem Or.sortsSF {dec:Int→List UInt8}{M:Md prog}{n:Nat}{H₀:View}{R:Rg}{L:Bl}{o:Oper}{K:Rg→Bl→Prop}{cl:Go.Call}{x:Operand}{fv:Value}{az:List Value}{d:Nat}{σ:Type}(i:Nat){sb:Nat}{l:List Int}{j:List Value}(val:σ→Value)(mm:σ→List Int)(p:σ→Prop)
   (hop:o.op=.call cl) (hcl:cl.callee=.value x) (hx:evR R x=some fv) (has:evRs R cl.args.toList=some az) (hd:o.dst=some d) (hn:d<n) (hi:L[i]? =some (sb,true,.cells ⟨(strsL dec l)++j⟩ 9 (0,0)))
   (hc:∀H,SymSt H₀ L H→FnT M fv az H (SortSQ dec H sb j fun v m=> ∃s,v=val s∧m=mm s∧p s)) (hk:∀s,p s→K ((d,val s)::R) (L.set i (sb,true,.cells ⟨(strsL dec (mm s))++j⟩ 9 (0,0)))):Or M n H₀ R L o K:=
 Or.sortsS i (fun v m=> ∃s,v=val s∧m=mm s∧p s) hop hcl hx has hd hn hi hc fun v m h=> by
   obtain⟨s,rfl,rfl,h3⟩:=h;exact hk s h3
section
variable(M:Md prog)
theorem pdqG_c (dec:Int→List UInt8)(sb:Nat)(jj:List Value)(n cap:Nat)(h40:n≤100000000):∀(d:Nat) (H:View) (l:List Int) (a b lim:Nat),b-a<d→n=l.length→a≤b→b≤n→lim≤100→Enc dec l→Ahead a b l→H sb=some (true,.cells ⟨(strsL dec l)++jj⟩ 9 (0,0))→
   CallT M 196 #[.slice (some ⟨sb,0,none⟩) n cap,.int .i64 (a:Nat),.int .i64 (b:Nat),.int .i64 (lim:Nat)] H (SortSQ dec H sb jj (fun v m=> v=.tuple ⟨[]⟩∧Turned a b l m∧Srt a b m)):=by
 intro d;induction d with
 | zero=> intro H l a b lim hd;omega
 | succ d ihd=>
 intro H l a b lim hd hn hab hb hlim hE hah hS;refine CallT.enter (vs:= [.slice (some ⟨sb,0,none⟩) n cap,.int .i64 (a:Nat),.int .i64 (b:Nat),.int .i64 (lim:Nat)]) func196 rfl ntmps196 (Nat.le_of_ble_eq_true rfl) (SymSt.pull hS) fun St c cs hK=> ?_;refine U9 ?_;refine Tc.db (Tc.loopInv (σ:= { s:Nat×Nat×Nat×Bool×Bool×List Int//a≤s.1∧s.1≤s.2.1∧s.2.1≤b∧s.2.2.1≤lim∧Turned a b l s.2.2.2.2.2∧Glue l a b s.1 s.2.1 s.2.2.2.2.2∧Ahead s.1 s.2.1 s.2.2.2.2.2 }) (fun s=> ([(0,.slice (some ⟨sb,0,none⟩) n cap),(1,.int .i64 (s.1.1:Nat)),(2,.int .i64 (s.1.2.1:Nat)),(3,.int .i64 (s.1.2.2.1:Nat)),(8,.bool s.1.2.2.2.1),(9,.bool s.1.2.2.2.2.1)],[(sb,true,.cells ⟨(strsL dec s.1.2.2.2.2.2)++jj⟩ 9 (0,0))])) (fun s=> s.1.2.1-s.1.1) ?_
   ⟨(a,b,lim,true,true,l),Nat.le_refl _,hab,Nat.le_refl _,Nat.le_refl _,Turned.refl ..,fun m h1 h2=> ⟨h1,h2⟩,hah⟩)
 rintro⟨⟨a',b',lm,wb,wp,u⟩,g1,g2,g3,g4,g5,g6,g7⟩ ih;simp only at g1 g2 g3 g4 g5 g6 g7;have hul:=g5.len;have hEu:=hE.turned g5;obtain⟨m,hm⟩:∃m,m=b'-a':=⟨_,rfl⟩
 have e0:((b':Nat):Int)-((a':Nat):Int)=((m:Nat):Int):=by omega
 show Tc M St _ _ _ _ [(0,.slice (some ⟨sb,0,none⟩) n cap),(1,.int .i64 (a':Nat)),(2,.int .i64 (b':Nat)),(3,.int .i64 (lm:Nat)),(8,.bool wb),(9,.bool wp)] [(sb,true,.cells ⟨(strsL dec u)++jj⟩ 9 (0,0))] _ _;refine U8 ?_;rw[e0];refine U2 ?_;by_cases c1:m≤12
 · refine U10 ?_;refine .e (Or.sortsS (dec:=dec) (l:=u) 0 (fun v m=> v=.tuple ⟨[]⟩∧Turned a' b' u m∧Srt a' b' m) rfl rfl rfl rfl rfl (by decide) rfl (fun H hs=> .h (insertionS_c M H dec sb u jj n cap a' b' (by omega) hEu (by omega) (by omega) (by omega) (hs.get (i:=0) rfl))) (fun v w ⟨_,wt,ws⟩=> ?_));refine U ?_;refine .rt hK func196 results196 [] ?_;exact fun H' hs=> SortSQ.of (dec:=dec) hs (i:=0) rfl ⟨rfl,g6 w wt ws⟩
 · refine U8 ?_;by_cases c2:lm=0
   · refine U10 ?_;refine .e (Or.sortsS (dec:=dec) (l:=u) 0 (fun v m=> v=.tuple ⟨[]⟩∧Turned a' b' u m∧Srt a' b' m) rfl rfl rfl rfl rfl (by decide) rfl (fun H hs=> .h (heapSortS_c M H dec sb u jj n cap a' b' (by omega) hEu (by omega) (by omega) (by omega) (hs.get (i:=0) rfl))) (fun v w ⟨_,wt,ws⟩=> ?_));refine U ?_;refine .rt hK func196 results196 [] ?_;exact fun H' hs=> SortSQ.of (dec:=dec) hs (i:=0) rfl ⟨rfl,g6 w wt ws⟩
   · refine U7 ?_;refine Tc.via (fun R' L'=> ∃(lm1:Nat) (x:List Int),lm1≤lm∧Turned a' b' u x∧AllIn [(0,.slice (some ⟨sb,0,none⟩) n cap),(1,.int .i64 (a':Nat)),(2,.int .i64 (b':Nat)),(3,.int .i64 (lm1:Nat)),(8,.bool wb),(9,.bool wp),(10,.int .i64 (m:Nat))] R'∧L'= [(sb,true,.cells ⟨(strsL dec x)++jj⟩ 9 (0,0))]) ?_ (fun fin=> ?_)
     · rintro R' _ ⟨lm1,x,o1,o2,hRR,rfl⟩;refine Tc.dropB ?_ hRR (List.Sublist.refl _);have hxl:=o2.len;refine U5 ?_;refine .e (Or.callNew pivV (fun _=> []) (fun s:Nat×Nat=> a'≤s.1∧s.1<b'∧s.2≤2) rfl rfl rfl rfl rfl (by decide) (fun _=> by simp) (fun H hs=> .h (choosePivotS_c M H dec sb true x jj n cap a' b' (by omega) (hEu.turned o2) h40 (by omega) (by omega) (hs.get (i:=0) rfl))) (fun⟨p,h⟩ ⟨v1,v2,v3⟩=> ?_));refine U6 ?_;simp only at v1 v2 v3;refine U ?_;refine Tc.via (fun R' L'=> ∃(p:Nat) (y:List Int),a'≤p∧p<b'∧Turned a' b' x y∧(∃h:Nat,AllIn [(0,.slice (some ⟨sb,0,none⟩) n cap),(1,.int .i64 (a':Nat)),(2,.int .i64 (b':Nat)),(3,.int .i64 (lm1:Nat)),(8,.bool wb),(9,.bool wp),(10,.int .i64 (m:Nat)),(11,.int .i64 (p:Nat)),(12,.int .i64 (h:Nat))] R')∧L'= [(sb,true,.cells ⟨(strsL dec y)++jj⟩ 9 (0,0))]) ?_ (fun fin=> ?_)
       · clear v1 v2 v3;rintro R' _ ⟨p,y,v1,v2,o3,⟨h,hRR⟩,rfl⟩;refine Tc.dropB ?_ hRR (List.Sublist.refl _);have hyl:=o3.len;refine U ?_;refine Tc.via (fun R' L'=> ∃y':List Int,Turned a' b' y y'∧AllIn [(0,.slice (some ⟨sb,0,none⟩) n cap),(1,.int .i64 (a':Nat)),(2,.int .i64 (b':Nat)),(3,.int .i64 (lm1:Nat)),(8,.bool wb),(9,.bool wp),(10,.int .i64 (m:Nat)),(11,.int .i64 (p:Nat))] R'∧L'= [(sb,true,.cells ⟨(strsL dec y')++jj⟩ 9 (0,0))]) ?_ (fun fin=> ?_)
         · rintro R' _ ⟨y,o4,hRR,rfl⟩;refine Tc.dropB ?_ hRR (List.Sublist.refl _);clear hRR;replace o3:=o3.trans o4;have hyl:=o3.len;have hEy:=hEu.turned (o2.trans o3);refine U ?_;have g5y:=(g5.trans ((o2.trans o3).wide g1 g3))
           have gy:Glue l a b a' b' y:=g6.turn (o2.trans o3);have ay:Ahead a' b' y:=g7.turn (o2.trans o3) (by omega);refine Tc.via (fun R' L'=> AllIn [(0,.slice (some ⟨sb,0,none⟩) n cap),(1,.int .i64 (a':Nat)),(2,.int .i64 (b':Nat)),(3,.int .i64 (lm1:Nat)),(8,.bool wb),(9,.bool wp),(10,.int .i64 (m:Nat)),(11,.int .i64 (p:Nat))] R'∧L'= [(sb,true,.cells ⟨(strsL dec y)++jj⟩ 9 (0,0))]) ?_ (fun fin=> ?_)
           · rintro R' _ ⟨hRR,rfl⟩;refine Tc.dropB ?_ hRR (List.Sublist.refl _);clear hRR;refine U6 ?_;refine .e (Or.sortsSF (dec:=dec) (l:=y) 0 (fun s:Nat×Bool×List Int=> .tuple ⟨[.int .i64 (s.1:Nat),.bool s.2.1]⟩) (fun s=> s.2.2) (fun s=> Turned a' b' y s.2.2∧Part a' b' s.1 s.2.2) rfl rfl rfl rfl rfl (by decide) rfl (fun H hs=> .h (partitionS_c M H dec sb y jj n cap a' b' p (by omega) hEy (by omega) (by omega) (by omega) (hs.get (i:=0) rfl))) (fun⟨mid,al,w⟩ ⟨k1,k2⟩=> ?_));refine U6 ?_;simp only at k1 k2;have k3:=k2.aj;have k4:=k2.jb;have hwl:=k1.len;have hEw:=hEy.turned k1;have gw:Glue l a b a' b' w:=gy.turn k1;have aw:Ahead a' b' w:=ay.turn k1 (by omega);have e1:((mid:Nat):Int)-((a':Nat):Int)=((mid-a':Nat):Int):=by omega
             have e2:((b':Nat):Int)-((mid:Nat):Int)=((b'-mid:Nat):Int):=by omega
             have hq:intBin .quo .i64 ((m:Nat):Int) 8=some (.int .i64 ((m/8:Nat):Int)):=by
               rw[quo_in (by omega) (by omega) (by omega)]
               congr 2
             have hgt:∀x y:Nat,intBin .geq .i64 ((x:Nat):Int) ((y:Nat):Int)=some (.bool (decide (y≤x))):=fun x y=> by
               by_cases c:y≤x
               · rw[decide_eq_true c];exact geq_t (by omega)
               · rw[decide_eq_false c];exact geq_f (by omega)
             have hg1:=hgt (mid-a') (m/8);have hg2:=hgt (b'-mid) (m/8);refine U16 ?_;rw[e1,e2];refine U7 ?_;by_cases c5:mid-a'<b'-mid
             · refine U10 ?_;refine .i ?_ (z:=hg1);refine U8 ?_;refine .e (Or.sortsS (dec:=dec) (l:=w) 0 (fun v m=> v=.tuple ⟨[]⟩∧Turned a' mid w m∧Srt a' mid m) rfl rfl rfl rfl rfl (by decide) rfl (fun H hs=> .h (ihd H w a' mid lm1 (by omega) (by omega) (by omega) (by omega) (by omega) hEw (aw.left (by omega)) (hs.get (i:=0) rfl))) (fun v x ⟨_,xt,xs⟩=> ?_));refine U7 ?_;have hxn:=xt.len;have r1:Turned a b l x:=g5y.trans ((k1.trans (xt.wide (by omega) (by omega))).wide (by omega) (by omega));have r2:Glue l a b (mid+1) b' x:=gw.right k2 (by omega) xt xs;have r3:Ahead (mid+1) b' x:=k2.ahead xt;have r4:lm1≤lim:=by omega
               have r5:a≤mid+1:=by omega
               have r6:mid+1≤b':=by omega
               exact Tc.db (ih ⟨(mid+1,b',lm1,decide (m/8≤mid-a'),al,x),r5,r6,g3,r4,r1,r2,r3⟩ (by simp only;omega))
             · refine U10 ?_;refine .i ?_ (z:=hg2);refine U9 ?_;refine .e (Or.sortsS (dec:=dec) (l:=w) 0 (fun v m=> v=.tuple ⟨[]⟩∧Turned (mid+1) b' w m∧Srt (mid+1) b' m) rfl rfl rfl rfl rfl (by decide) rfl (fun H hs=> .h (ihd H w (mid+1) b' lm1 (by omega) (by omega) (by omega) (by omega) (by omega) hEw (k2.ahead (Turned.refl a' mid w)) (hs.get (i:=0) rfl))) (fun v x ⟨_,xt,xs⟩=> ?_));refine U6 ?_;have r1:Turned a b l x:=g5y.trans ((k1.trans (xt.wide (by omega) (by omega))).wide (by omega) (by omega));have r2:Glue l a b a' mid x:=gw.left k2 (by omega) xt xs;have r3:Ahead a' mid x:=(aw.left (by omega)).keep xt;have r4:lm1≤lim:=by omega
               have r5:a'≤mid:=by omega
               have r6:mid≤b:=by omega
               exact Tc.db (ih ⟨(a',mid,lm1,decide (m/8≤b'-mid),al,x),g1,r5,r6,r4,r1,r2,r3⟩ (by simp only;omega))
           · by_cases c3:a'=0
             · subst c3;refine U ?_;refine Tc.dr [] [] mixed rfl ?_;refine .nn 0 ?_;refine .nn 1 ?_;refine .nn 2 ?_;refine .nw 3 ?_;refine .nw 4 ?_;refine .nw 5 ?_;refine .nw 6 ?_;refine .nw 7 ?_;refine .nw 8 ?_;refine .nw 9 ?_;refine .nw 10 ?_;refine .nw 11 ?_;refine .nw 12 ?_;refine .nw 13 ?_;refine .nn 14 ?_;refine .dn ?_;refine U2 ?_;exact Tc.db (fin [(0,.slice (some ⟨sb,0,none⟩) n cap),(1,.int .i64 (0:Nat)),(2,.int .i64 (b':Nat)),(3,.int .i64 (lm1:Nat)),(8,.bool wb),(9,.bool wp),(10,.int .i64 (m:Nat)),(11,.int .i64 (p:Nat))] [(sb,true,.cells ⟨(strsL dec y)++jj⟩ 9 (0,0))] ⟨⟨rfl,rfl,rfl,rfl,rfl,rfl,rfl,rfl,trivial⟩,rfl⟩)
             · have ea:((a':Nat):Int)-1=((a'-1:Nat):Int):=by omega
               have y1:=cellsS_ld (dec:=dec) (m:=y) (j:=jj) (k:=((a':Nat):Int)-1) (p:=a'-1) (by omega) (by omega);have y2:=cellsS_ld (dec:=dec) (m:=y) (j:=jj) (k:=(p:Nat)) (p:=p) rfl (by omega);by_cases hlt:at0 y (a'-1)<at0 y p
               · refine U ?_;refine Tc.dr [] [] mixed rfl ?_;refine .nn 0 ?_;refine .nn 1 ?_;refine .nn 2 ?_;refine .nn 3 ?_;refine .nn 4 ?_;refine .nn 5 ?_;refine .nn 6 ?_;refine .nn 7 ?_;refine .nn 8 ?_;refine .nn 9 ?_;refine .nn 10 ?_;refine .nn 11 ?_;refine .z 12 rfl (OpV.takeCall rfl rfl rfl rfl (fun H hs=> .h (lessS M H hEy (at0_mem (by omega)) (at0_mem (by omega)) true (decide_eq_true hlt)))) ?_;refine .nn 13 ?_;refine .nn 14 ?_;refine .dn ?_;refine U2 ?_;exact Tc.db (fin [(0,.slice (some ⟨sb,0,none⟩) n cap),(1,.int .i64 (a':Nat)),(2,.int .i64 (b':Nat)),(3,.int .i64 (lm1:Nat)),(8,.bool wb),(9,.bool wp),(10,.int .i64 (m:Nat)),(11,.int .i64 (p:Nat))] [(sb,true,.cells ⟨(strsL dec y)++jj⟩ 9 (0,0))] ⟨⟨rfl,rfl,rfl,rfl,rfl,rfl,rfl,rfl,trivial⟩,rfl⟩)
               · have hge:∀i,a'≤i→i<b'→at0 y p≤at0 y i:=fun i q1 q2=> by
                   rcases ay with h0|h0
                   · exact absurd h0 c3
                   · have:=h0 i q1 q2;omega
                 refine U ?_;refine Tc.dr [] [] mixed rfl ?_;refine .nn 0 ?_;refine .nn 1 ?_;refine .nn 2 ?_;refine .nn 3 ?_;refine .nn 4 ?_;refine .nn 5 ?_;refine .nn 6 ?_;refine .nn 7 ?_;refine .nn 8 ?_;refine .nn 9 ?_;refine .nn 10 ?_;refine .nn 11 ?_;refine .z 12 rfl (OpV.takeCall rfl rfl rfl rfl (fun H hs=> .h (lessS M H hEy (at0_mem (by omega)) (at0_mem (by omega)) false (decide_eq_false hlt)))) ?_;refine .nn 13 ?_;refine .nn 14 ?_;refine .dn ?_;refine U2 ?_;clear fin;refine U5 ?_;refine .e (Or.sortsSF (dec:=dec) (l:=y) 0 (fun s:Nat×List Int=> .int .i64 (s.1:Nat)) (fun s=> s.2) (fun s=> Turned a' b' y s.2∧EqPart a' b' s.1 (at0 y p) s.2) rfl rfl rfl rfl rfl (by decide) rfl (fun H hs=> .h (partEqS_c M H dec sb y jj n cap a' b' p (by omega) hEy (by omega) h40 (by omega) (hs.get (i:=0) rfl))) (fun⟨mid,w⟩ ⟨k1,k2⟩=> ?_));refine U2 ?_;simp only at k1 k2;have k3:=k2.ac;have k4:=k2.cb;have hwl:=k1.len;refine U6 ?_;have r1:Turned a b l w:=g5y.trans (k1.wide (by omega) (by omega));have r2:Glue l a b mid b' w:=gy.eq k2 k1 (k1.all (by omega) (P:=fun z=> at0 y p≤z) hge) (by omega);have r3:Ahead mid b' w:=k2.ahead;have r4:lm1≤lim:=by omega
                 have r5:a≤mid:=by omega
                 exact Tc.db (ih ⟨(mid,b',lm1,wb,wp,w),r5,k4,g3,r4,r1,r2,r3⟩ (by simp only;omega))
         · refine U ?_;by_cases c4:wb=true∧wp=true∧h=1
           · obtain⟨rfl,rfl,rfl⟩:=c4;refine U16 ?_;refine .e (Or.sortsSF (dec:=dec) (l:=y) 0 (fun s:Bool×List Int=> .bool s.1) (fun s=> s.2) (fun s=> Turned a' b' y s.2∧(s.1=true→Srt a' b' s.2)) rfl rfl rfl rfl rfl (by decide) rfl (fun H hs=> .h (CallT.mono (partialS_c M H dec sb y jj n cap a' b' (by omega) (hEu.turned (o2.trans o3)) (by omega) h40 (by omega) (g7.turn (o2.trans o3) (by omega)) (hs.get (i:=0) rfl)) (fun v H' ⟨q1,m',⟨t',q2,q3,q4⟩,q5⟩=> ⟨q1,m',⟨(t',m'),q2,rfl,q3,q4⟩,q5⟩))) (fun⟨t,y2⟩ ⟨ht,hs2⟩=> ?_));refine U ?_;simp only at ht hs2;cases t
             · refine U2 ?_;exact Tc.db (fin [(0,.slice (some ⟨sb,0,none⟩) n cap),(1,.int .i64 (a':Nat)),(2,.int .i64 (b':Nat)),(3,.int .i64 (lm1:Nat)),(8,.bool true),(9,.bool true),(10,.int .i64 (m:Nat)),(11,.int .i64 (p:Nat))] [(sb,true,.cells ⟨(strsL dec y2)++jj⟩ 9 (0,0))] ⟨y2,ht,⟨rfl,rfl,rfl,rfl,rfl,rfl,rfl,rfl,trivial⟩,rfl⟩)
             · have hall:=(g6.turn (o2.trans o3)) y2 ht (hs2 rfl);refine U ?_;refine .rt hK func196 results196 [] ?_;exact fun H' hs=> SortSQ.of (dec:=dec) hs (i:=0) rfl ⟨rfl,hall⟩
           · have c5:wb=true→wp=true→h≠1:=fun e1 e2 e3=> c4 ⟨e1,e2,e3⟩;cases wb
             · cases wp
               · refine U12 ?_;exact Tc.db (fin [(0,.slice (some ⟨sb,0,none⟩) n cap),(1,.int .i64 (a':Nat)),(2,.int .i64 (b':Nat)),(3,.int .i64 (lm1:Nat)),(8,.bool false),(9,.bool false),(10,.int .i64 (m:Nat)),(11,.int .i64 (p:Nat))] [(sb,true,.cells ⟨(strsL dec y)++jj⟩ 9 (0,0))] ⟨y,Turned.refl ..,⟨rfl,rfl,rfl,rfl,rfl,rfl,rfl,rfl,trivial⟩,rfl⟩)
               · refine U12 ?_;exact Tc.db (fin [(0,.slice (some ⟨sb,0,none⟩) n cap),(1,.int .i64 (a':Nat)),(2,.int .i64 (b':Nat)),(3,.int .i64 (lm1:Nat)),(8,.bool false),(9,.bool true),(10,.int .i64 (m:Nat)),(11,.int .i64 (p:Nat))] [(sb,true,.cells ⟨(strsL dec y)++jj⟩ 9 (0,0))] ⟨y,Turned.refl ..,⟨rfl,rfl,rfl,rfl,rfl,rfl,rfl,rfl,trivial⟩,rfl⟩)
             · cases wp
               · refine U12 ?_;exact Tc.db (fin [(0,.slice (some ⟨sb,0,none⟩) n cap),(1,.int .i64 (a':Nat)),(2,.int .i64 (b':Nat)),(3,.int .i64 (lm1:Nat)),(8,.bool true),(9,.bool false),(10,.int .i64 (m:Nat)),(11,.int .i64 (p:Nat))] [(sb,true,.cells ⟨(strsL dec y)++jj⟩ 9 (0,0))] ⟨y,Turned.refl ..,⟨rfl,rfl,rfl,rfl,rfl,rfl,rfl,rfl,trivial⟩,rfl⟩)
               · have c6:=c5 rfl rfl;refine U12 ?_;exact Tc.db (fin [(0,.slice (some ⟨sb,0,none⟩) n cap),(1,.int .i64 (a':Nat)),(2,.int .i64 (b':Nat)),(3,.int .i64 (lm1:Nat)),(8,.bool true),(9,.bool true),(10,.int .i64 (m:Nat)),(11,.int .i64 (p:Nat))] [(sb,true,.cells ⟨(strsL dec y)++jj⟩ 9 (0,0))] ⟨y,Turned.refl ..,⟨rfl,rfl,rfl,rfl,rfl,rfl,rfl,rfl,trivial⟩,rfl⟩)
       · refine U ?_;by_cases c4:h=2
         · have e1:((b':Nat):Int)-1-(((p:Nat):Int)-((a':Nat):Int))=((b'-1-(p-a'):Nat):Int):=by omega
           refine U10 ?_;refine .e (Or.sortsS (dec:=dec) (l:=x) 0 (fun v m=> v=.tuple ⟨[]⟩∧Turned a' b' x m) rfl rfl rfl rfl rfl (by decide) rfl (fun H hs=> .h (reverseS_c M H dec sb x jj n cap a' b' (by omega) (by omega) (by omega) (by omega) (hs.get (i:=0) rfl))) (fun v y ⟨_,yt⟩=> ?_));refine U11 ?_;rw[e1];refine U3 ?_;exact Tc.db (fin [(0,.slice (some ⟨sb,0,none⟩) n cap),(1,.int .i64 (a':Nat)),(2,.int .i64 (b':Nat)),(3,.int .i64 (lm1:Nat)),(8,.bool wb),(9,.bool wp),(10,.int .i64 (m:Nat)),(11,.int .i64 (b'-1-(p-a'):Nat)),(12,.int .i64 (1:Nat))] [(sb,true,.cells ⟨(strsL dec y)++jj⟩ 9 (0,0))] ⟨b'-1-(p-a'),y,by omega,by omega,yt,⟨1,rfl,rfl,rfl,rfl,rfl,rfl,rfl,rfl,rfl,trivial⟩,rfl⟩)
         · refine U6 ?_;exact Tc.db (fin [(0,.slice (some ⟨sb,0,none⟩) n cap),(1,.int .i64 (a':Nat)),(2,.int .i64 (b':Nat)),(3,.int .i64 (lm1:Nat)),(8,.bool wb),(9,.bool wp),(10,.int .i64 (m:Nat)),(11,.int .i64 (p:Nat)),(12,.int .i64 (h:Nat))] [(sb,true,.cells ⟨(strsL dec x)++jj⟩ 9 (0,0))] ⟨p,x,by omega,by omega,Turned.refl ..,⟨h,rfl,rfl,rfl,rfl,rfl,rfl,rfl,rfl,rfl,trivial⟩,rfl⟩)
     · refine U ?_;cases wb
       · have e1:((lm:Nat):Int)-1=((lm-1:Nat):Int):=by omega
         refine U10 ?_;refine .e (Or.sortsS (dec:=dec) (l:=u) 0 (fun v m=> v=.tuple ⟨[]⟩∧Turned a' b' u m) rfl rfl rfl rfl rfl (by decide) rfl (fun H hs=> .h (breakS_c M H dec sb u jj n cap a' b' (by omega) (by omega) h40 (by omega) (hs.get (i:=0) rfl))) (fun v x ⟨_,xt⟩=> ?_));refine U6 ?_;rw[e1];exact Tc.db (fin [(0,.slice (some ⟨sb,0,none⟩) n cap),(1,.int .i64 (a':Nat)),(2,.int .i64 (b':Nat)),(3,.int .i64 (lm-1:Nat)),(8,.bool false),(9,.bool wp),(10,.int .i64 (m:Nat))] [(sb,true,.cells ⟨(strsL dec x)++jj⟩ 9 (0,0))] ⟨lm-1,x,by omega,xt,⟨rfl,rfl,rfl,rfl,rfl,rfl,rfl,trivial⟩,rfl⟩)
       · refine U6 ?_;exact Tc.db (fin [(0,.slice (some ⟨sb,0,none⟩) n cap),(1,.int .i64 (a':Nat)),(2,.int .i64 (b':Nat)),(3,.int .i64 (lm:Nat)),(8,.bool true),(9,.bool wp),(10,.int .i64 (m:Nat))] [(sb,true,.cells ⟨(strsL dec u)++jj⟩ 9 (0,0))] ⟨lm,u,Nat.le_refl _,Turned.refl ..,⟨rfl,rfl,rfl,rfl,rfl,rfl,rfl,trivial⟩,rfl⟩)
end
set_option maxHeartbeats 8000000
section
variable(M:Md prog)(H:View)
theorem SortG_c(dec:Int→List UInt8)(sb:Nat)(l:List Int)(jj:List Value)(n cap:Nat)(hn:n=l.length)(hE:Enc dec l)(h12:n≤100000000)(hS:H sb=some (true,.cells ⟨(strsL dec l)++jj⟩ 9 (0,0))):
   CallT M 120 #[.slice (some ⟨sb,0,none⟩) n cap] H (SortSQ dec H sb jj (fun v m=> v=.tuple ⟨[]⟩∧Turned 0 n l m∧Srt 0 n m)):=by
 have hw:=u64_in (x:=n) (by omega);have hb:bl n≤32:=by
   by_cases h0:0<n
   · have h1:=bl_spec h0;have h3:2 ^ bl n<2 ^ 32:=by omega
     have:=(Nat.pow_lt_pow_iff_right (a:=2) (by decide)).1 h3;omega
   · unfold bl;rw[if_pos (by omega)];omega
 refine CallT.enter (vs:= [.slice (some ⟨sb,0,none⟩) n cap]) func120 rfl ntmps120 (Nat.le_of_ble_eq_true rfl) (SymSt.pull hS) fun St c cs hK=> ?_;refine U11 ?_;refine .c rfl rfl rfl rfl (fun H hs=> .h (LenG_c M H n (by omega))) ?_;refine .e (Or.sortsS (dec:=dec) (l:=l) 0 (fun v m=> v=.tuple ⟨[]⟩∧Turned 0 n l m∧Srt 0 n m) rfl rfl rfl rfl rfl (by decide) rfl (fun H hs=> .h (pdqG_c M dec sb jj n cap h12 (n+1) H l 0 n (bl n) (by omega) hn (by omega) (Nat.le_refl _) (by omega) hE (.inl rfl) (hs.get (i:=0) rfl))) (fun v m hm=> ?_));refine U ?_;obtain⟨rfl,ht,hs0⟩:=hm;refine .ov hK func120 results120 [] ?_;exact fun H' hs=> SortSQ.of hs (i:=0) rfl ⟨rfl,ht,hs0⟩
end
theorem Or.sortGG {dec:Int→List UInt8}{M:Md prog}{n:Nat}{H₀:View}{R:Rg}{L1:Bl}{o:Oper}{K:Rg→Bl→Prop}{cl:Go.Call}{x:Operand}{fv:Value}{d:Nat}(g:Gl 9 1)(u:List Int)(hg:g.l=(strsL dec u))(hE:Enc dec u)(h12:g.n≤100000000)
   (hop:o.op=.call cl) (hcl:cl.callee=.value x) (hx:evR R x=some fv) (has:evRs R cl.args.toList=some [g.val]) (hd:o.dst=some d) (hn:d<n)
   (hc:∀(H:View) (Q:Value→View→Prop),CallT M 120 #[g.val] H Q→FnT M fv [g.val] H Q)
   (hK:∀(g':Gl 9 1) (m:List Int),g'.val=g.val→g'.n=g.n→g'.blk=g.blk→g'.l=(strsL dec m)→Turned 0 g.n u m→Srt 0 g.n m→K ((d,.tuple ⟨[]⟩)::R) (L1++g'.bl)):Or M n H₀ R (L1++g.bl) o K:=by
 have hul:u.length=g.n:=by have:=g.hl;rw[hg,strsL_len] at this;omega
 cases hb:g.blk with
 | none=>
   have hcap:=g.h0 hb;have hgc:=g.hc;have h0:g.n=0:=by omega
   have hbl:g.bl= []:=by unfold Gl.bl;rw[hb]
   have hv:g.val=.slice none 0 g.cap:=by unfold Gl.val;rw[hb,h0];rfl
   refine Or.callNew (fun _:Unit=> .tuple ⟨[]⟩) (fun _=> []) (fun _=> True) hop hcl hx has hd hn (fun _=> by simp) (fun H hs=> hc H _ ?_) (fun _ _=> ?_)
   · rw[hv];exact CallT.mono (SortS_nil M H g.cap) (fun v H' ⟨h1,h2⟩=> ⟨h1,(),h2,trivial,by simp⟩)
   · rw[List.append_nil];exact hK g u rfl rfl rfl hg (Turned.refl _ _ _) (fun p q h1 h2 h3=> by omega)
 | some b=>
   have hbl:g.bl= [(b,true,.cells ⟨(strsL dec u)++g.junk⟩ 9 (0,0))]:=by unfold Gl.bl;rw[hb,hg]
   have hv:g.val=.slice (some ⟨b,0,none⟩) g.n g.cap:=by unfold Gl.val;rw[hb];rfl
   rw[hbl];refine Or.sortsS (dec:=dec) (l:=u) L1.length (fun v m=> v=.tuple ⟨[]⟩∧Turned 0 g.n u m∧Srt 0 g.n m) hop hcl hx has hd hn (by rw[List.getElem?_append_right (Nat.le_refl _),Nat.sub_self];rfl)
     (fun H hs=> hc H _ ?_) (fun v m ⟨h1,h2,h3⟩=> ?_)
   · rw[hv];exact SortG_c M H dec b u g.junk g.n g.cap hul.symm hE h12 (hs.get (i:=L1.length) (by rw[List.getElem?_append_right (Nat.le_refl _),Nat.sub_self];rfl))
   · subst h1;have hml:m.length=g.n:=by rw[h2.len];exact hul
     have:=hK (Gl.withS g (strsL dec m) (by rw[strsL_len];exact hml)) m rfl rfl rfl rfl h2 h3;have hbl':(Gl.withS g (strsL dec m) (by rw[strsL_len];exact hml)).bl= [(b,true,.cells ⟨(strsL dec m)++g.junk⟩ 9 (0,0))]:=by
       unfold Gl.bl Gl.withS;simp only[hb]
     rw[hbl'] at this;rw[List.set_append_right _ _ (Nat.le_refl _),Nat.sub_self];exact this
set_option maxHeartbeats 16000000
def digs1:List UInt8:= [49,50,51,52,53,54,55,56,57]
def canTo(most n:Nat):List (List UInt8):=(List.range n).flatMap fun i=> allL (digs1.take most) (i+1)
theorem canTo_succ(most n:Nat):canTo most (n+1)=canTo most n++allL (digs1.take most) (n+1):=by
 unfold canTo;rw[List.range_succ,List.flatMap_append];simp
theorem allFrom_len(dg:List UInt8):∀(d:Nat) (s:List UInt8),(allFrom dg d s).length=dg.length ^ d
 | 0,_=> rfl
 | d+1,s=> by
   unfold allFrom;rw[List.length_flatMap];have:∀x∈dg,(fun x=> (allFrom dg d (s++[x])).length) x=(fun _=> dg.length ^ d) x:=fun x _=> allFrom_len dg d _;rw[List.map_congr_left this,List.map_const',List.sum_replicate_nat,Nat.pow_succ,Nat.mul_comm]
theorem allL_len {most n:Nat}(hm:most≤3)(hn:n≤3):(allL (digs1.take most) n).length≤27:=by
 unfold allL;rw[allFrom_len];have hl:(digs1.take most).length≤3:=by rw[List.length_take];omega
 calc (digs1.take most).length ^ n≤3 ^ n:=Nat.pow_le_pow_left hl n
   _≤3 ^ 3:=Nat.pow_le_pow_right (by decide) hn
   _=27:=by decide
theorem canTo_len {most:Nat}(hm:most≤3):∀n,n≤3→(canTo most n).length≤27*n
 | 0,_=> Nat.le_refl _
 | n+1,h=> by
   rw[canTo_succ,List.length_append];have h1:=canTo_len hm n (by omega);have h2:=allL_len hm h;omega
theorem digs1_dig(most:Nat):(digs1.take most).all dig=true:=by
 have h:digs1.all dig=true:=by decide +kernel
 exact List.all_eq_true.2 fun x hx=> List.all_eq_true.1 h x (List.mem_of_mem_take hx)
theorem mem_canTo {most n:Nat}{s:List UInt8}(h:s∈canTo most n)(hn:n≤3):s.all dig=true∧s.length≤3:=by
 obtain⟨i,hi,h2⟩:=List.mem_flatMap.1 h;obtain⟨h3,h4⟩:=mem_allL h2;have:=List.mem_range.1 hi;exact⟨List.all_eq_true.2 fun y hy=> List.all_eq_true.1 (digs1_dig most) y (h4 y hy),by omega⟩
theorem perm5(a b c d e f:Nat×Bool×Obj)(B:Bl):(a::b::c::d::e::f::B).Perm (c::d::e::a::b::f::B):=by
 have h1:([a,b]++c::(d::e::f::B)).Perm (c::([a,b]++d::e::f::B)):=List.perm_middle;have h2:([a,b]++d::(e::f::B)).Perm (d::([a,b]++e::f::B)):=List.perm_middle;have h3:([a,b]++e::(f::B)).Perm (e::([a,b]++f::B)):=List.perm_middle;exact h1.trans (.cons _ (h2.trans (.cons _ h3)))
def cheap(w:Nat→Int)(nw digits most:Nat):ChSt:=cheapGo (sortS (canTo most digits)) w nw [] 0 ⟨false,0,[]⟩
def cheapV(num:Value)(t a:Int):Value:=.tuple ⟨[num,.int .i64 t,.int .i64 a]⟩
section
variable(M:Md prog)(H:View)
theorem Cheapest_k(A:Option Addr)(nw wc:Nat)(w:Nat→Int)(hA:FreeAt H A nw w)(digits most:Nat)(h0:1≤(nw:Int)∧(nw:Int)≤3)(hw:(firstTo (fun j=> !weightOk (w j)) nw).isSome=false)(hd:1≤((digits:Nat):Int)∧((digits:Nat):Int)≤3)(hm:1≤((most:Nat):Int)∧((most:Nat):Int)≤3):
   CallT M 58 #[.slice A nw wc,.int .i64 (digits:Nat),.int .i64 (most:Nat)] H (fun v H'=> H.le H'∧∃a n c',v=cheapV (.slice a n c') (cheap w nw digits most).total (cheap w nw digits most).al∧n=(cheap w nw digits most).best.length∧SrcAt H' 1 (.slice a n c') n (strsV (cheap w nw digits most).best)∧n≤c'):=by
 have hc:=fun(H':View) (h':H.le H')=> ContainsI_c M H' A nw wc w (hA.le h') (by omega) (.func (.func 140) #[] #[]) (fun j=> !weightOk (w j)) (fun j _ H'' _=> .h (weightBad_c M H'' (w j)));have hwok:∀i,i<nw→0≤w i∧w i≤99:=fun i hi=> by
   have h1:firstTo (fun j=> !weightOk (w j)) nw=none:=by
     cases hz:firstTo (fun j=> !weightOk (w j)) nw with
     | none=> rfl
     | some y=> rw[hz] at hw;cases hw
   have h2:=(firstTo_none _).1 h1 i hi;unfold weightOk at h2;simpa using h2
 refine .en func58 ntmps58 fun St c cs hK=> ?_;refine U2 ?_;refine .bo fun b3=> ?_;refine .al fun b6=> ?_;refine .al fun b7=> ?_;refine .al fun b8=> ?_;refine U7 ?_;refine .c rfl rfl rfl rfl (fun H hs=> .h (between_is M H (nw:Nat) 1 3 true (decide_eq_true h0))) ?_;refine U8 ?_;refine .c rfl rfl rfl rfl (fun H hs=> .h (isB (hc H hs.base) hw)) ?_;refine U6 ?_;refine .c rfl rfl rfl rfl (fun H hs=> .h (between_is M H (digits:Nat) 1 3 true (decide_eq_true hd))) ?_;refine U6 ?_;refine .c rfl rfl rfl rfl (fun H hs=> .h (between_is M H (most:Nat) 1 3 true (decide_eq_true hm))) ?_;refine U8 ?_;refine .al fun b9=> ?_;refine U8 ?_;refine Tc.db (Tc.loopB (σ:= { y:View×Nat×Gl 9 1//H.le y.1∧y.2.1≤digits∧y.2.2.l=strsV (canTo most y.2.1)∧y.2.2.n=(canTo most y.2.1).length })
   (fun y=> (y.1.1,[(2,.int .i64 (most:Nat)),(3,.pointer (some ⟨b3,0,none⟩)),(6,.pointer (some ⟨b6,0,none⟩)),(7,.pointer (some ⟨b7,0,none⟩)),(8,.pointer (some ⟨b8,0,none⟩)),(9,.pointer (some ⟨b9,0,none⟩)),(26,.int .i64 (digits:Nat)),(27,.int .i64 (y.1.2.1:Nat))],
     [(b9,true,.cells ⟨[y.1.2.2.val]⟩ 107 (0,0)),(b8,true,.cells ⟨[.int .i64 0]⟩ 25 (0,0)),(b7,true,.cells ⟨[.int .i64 0]⟩ 3 (0,0)),(b6,true,.cells ⟨[.slice none 0 0]⟩ 107 (0,0)),(b3,true,.cells ⟨[.slice A nw wc]⟩ 24 (0,0))]++y.1.2.2.bl)) (fun y=> digits-y.1.2.1) ?_ ⟨(H,0,Gl.nil 9 1),View.le_refl _,Nat.zero_le _,rfl,rfl⟩)
 rintro⟨⟨H₁,i,g⟩,g1,g2,g3,g4⟩ ih;simp only at g1 g2 g3 g4;show Tc M St _ _ H₁ _ [(2,.int .i64 (most:Nat)),(3,.pointer (some ⟨b3,0,none⟩)),(6,.pointer (some ⟨b6,0,none⟩)),(7,.pointer (some ⟨b7,0,none⟩)),(8,.pointer (some ⟨b8,0,none⟩)),(9,.pointer (some ⟨b9,0,none⟩)),(26,.int .i64 (digits:Nat)),(27,.int .i64 (i:Nat))]
     ([(b9,true,.cells ⟨[g.val]⟩ 107 (0,0)),(b8,true,.cells ⟨[.int .i64 0]⟩ 25 (0,0)),(b7,true,.cells ⟨[.int .i64 0]⟩ 3 (0,0)),(b6,true,.cells ⟨[.slice none 0 0]⟩ 107 (0,0)),(b3,true,.cells ⟨[.slice A nw wc]⟩ 24 (0,0))]++g.bl) _ _
 have hcl:=canTo_len (most:=most) (by omega) i (by omega);by_cases c1:i=digits
 · subst c1;refine U10 ?_;refine .e (Or.sortGG (dec:=decS (canTo most i)) (L1:= [(b9,true,.cells ⟨[g.val]⟩ 107 (0,0)),(b8,true,.cells ⟨[.int .i64 0]⟩ 25 (0,0)),(b7,true,.cells ⟨[.int .i64 0]⟩ 3 (0,0)),(b6,true,.cells ⟨[.slice none 0 0]⟩ 107 (0,0)),(b3,true,.cells ⟨[.slice A nw wc]⟩ 24 (0,0))]) g (codesS (canTo most i)) (g3.trans (strsL_codes _).symm) (codes_enc _) (by omega) rfl rfl rfl rfl rfl (by decide) (fun H Q h=> .h h) (fun g' m hv' hn' hb' hl' ht hs'=> ?_));rw[←hv'];have hso:=codes_sorted g4 ht hs';have hl2:g'.l=strsV (sortS (canTo most i)):=by rw[hl',strsL_map,hso];rfl
   have hslen:(sortS (canTo most i)).length=(canTo most i).length:=(sortS_perm _).length_eq;clear hl' ht hs' hso hv';refine U7 ?_;refine .al fun b11=> ?_;refine U9 ?_;refine To.lift (L₂:= []) (L₁:= [(b11,true,.cells ⟨[cheapF b8 b7 b3 b6 b9 b11]⟩ 249 (0,0)),(b9,true,.cells ⟨[g'.val]⟩ 107 (0,0)),(b8,true,.cells ⟨[.int .i64 9]⟩ 25 (0,0)),(b7,true,.cells ⟨[.int .i64 0]⟩ 3 (0,0)),(b6,true,.cells ⟨[.slice none 0 0]⟩ 107 (0,0)),(b3,true,.cells ⟨[.slice A nw wc]⟩ 24 (0,0))]++g'.bl) rfl (fun Hx hx=> ?_);obtain⟨H',h1,h2⟩:=SymSt.unappend (B:= [(b8,true,.cells ⟨[.int .i64 9]⟩ 25 (0,0)),(b7,true,.cells ⟨[.int .i64 0]⟩ 3 (0,0)),(b6,true,.cells ⟨[.slice none 0 0]⟩ 107 (0,0))]) (L:= [(b11,true,.cells ⟨[cheapF b8 b7 b3 b6 b9 b11]⟩ 249 (0,0)),(b9,true,.cells ⟨[g'.val]⟩ 107 (0,0)),(b3,true,.cells ⟨[.slice A nw wc]⟩ 24 (0,0))]++g'.bl) (hx.perm (by
     simp only[List.cons_append,List.nil_append];exact(perm5 _ _ _ _ _ _ _).symm))
   have hcap:ChCap (sortS (canTo most i)) w nw b8 b7 b3 b6 b9 b11 (g'.blk.map fun b=> ⟨b,0,none⟩) A g'.cap wc H':=
     ⟨⟨true,h2.get (i:=0) rfl⟩,⟨true,by have h3:=h2.get (i:=1) rfl;rw[hslen,←g4,←hn'];exact h3⟩,⟨true,h2.get (i:=2) rfl⟩,by
       have h3:=strs_of (g0:=g') g' (H:=H') (fun x hx=> h2.at_ x (List.mem_append_right _ hx)) hl2 rfl rfl;rw[hn',g4,←hslen] at h3;exact h3,(hA.le g1).le h2.base⟩
   refine To.callF rfl rfl rfl rfl rfl rfl (by decide) (FnT.of (first:= []) (captured:= [_,_,_,_,_,_]) ca142 rfl (more2_c M (sortS (canTo most i)) w nw b8 b7 b3 b6 b9 b11 (g'.blk.map fun b=> ⟨b,0,none⟩) A g'.cap wc (by omega) (by rw[hslen];omega) (fun s hs=> mem_canTo ((sortS_perm _).mem_iff.1 hs) (by omega)) hwok nw (Gl.nil 9 1) [] 0 ⟨false,0,[]⟩ none 0 0 H' Hx rfl (Nat.zero_add _) (by decide) hcap rfl ⟨⟨⟨_,_,rfl⟩,rfl,.inl ⟨none,0,rfl,rfl⟩⟩,Nat.le_refl 0⟩ h1)) (fun v H₃ hv=> ?_);obtain⟨_,H₄,g4',a4,n4,c4,r1,r2,r3,r4,r5⟩:=hv;refine To.expand r2 ?_;unfold stB;refine U2 ?_;refine Tc.dr [] [] mixed rfl ?_;refine .nn 0 ?_;refine .nn 1 ?_;refine .nn 2 ?_;refine Ta.each [3] (by kernel_rfl) rfl ⟨TaOp.mk rfl rfl rfl (.st 2 (zz:=⟨S2.mk (by exact List.Sublist.refl _) (.inr (by exact List.Sublist.refl _)),?_⟩)),trivial⟩;refine Ta.each [4] (by kernel_rfl) rfl ⟨TaOp.mk rfl rfl rfl (.st 1 (zz:=⟨S2.mk (by exact List.Sublist.refl _) (.inr (by exact List.Sublist.refl _)),?_⟩)),trivial⟩;refine Ta.each [5] (by kernel_rfl) rfl ⟨TaOp.mk rfl rfl rfl (.st 0 (zz:=⟨S2.mk (by exact List.Sublist.refl _) (.inr (by exact List.Sublist.refl _)),?_⟩)),trivial⟩;refine .dn ?_;refine .rt hK func58 results58 [_,_,_] ?_;exact fun H' hs=> ⟨View.le_trans g1 (View.le_trans h2.base (View.le_trans r1 hs.base)),a4,n4,c4,rfl,r4,r5.1.mono hs.base,r5.2⟩
 · have c2:i<digits:=by omega
   have hal:=allL_len (most:=most) (n:=i+1) (by omega) (by omega);have hlc:([49,50,51,52,53,54,55,56,57]:List UInt8).length=9:=rfl;have hdl:(digs1.take most).length≤1000:=by rw[List.length_take];omega
   refine U14 ?_;refine Tc.drT [7] [6] [0] 5 mixed rfl ?_;refine .oo 0 ?_;refine .oo 1 ?_;refine .oo 2 ?_;refine .oo 3 ?_;refine Ta.tkC 4 (by kernel_rfl) rfl rfl (by decide) rfl rfl (OpV.take (OpV.sliceS (E:=en) rfl rfl rfl rfl rfl rfl (by omega) (by omega) (by omega))) ?_;refine Ta.each [5] (by kernel_rfl) rfl ⟨TaOp.mk rfl rfl rfl (Or.callNew (fun s=> allF s.1.1 s.1.2) (allB2 (i+1) (digs1.take most)) (fun _=> True) rfl rfl rfl rfl rfl (by decide) (allB2_nodup _ _) (fun H hs=> .h (all_n M H (i+1) (digs1.take most))) (fun s _=> ⟨S3.mk (by apply List.Sublist.cons;exact List.sublist_append_left _ _) (.inr (by exact List.sublist_append_left _ _)),?_⟩)),trivial⟩;refine Ta.lift (L₂:= [(b9,true,.cells ⟨[g.val]⟩ 107 (0,0)),(b8,true,.cells ⟨[.int .i64 0]⟩ 25 (0,0)),(b7,true,.cells ⟨[.int .i64 0]⟩ 3 (0,0)),(b6,true,.cells ⟨[.slice none 0 0]⟩ 107 (0,0)),(b3,true,.cells ⟨[.slice A nw wc]⟩ 24 (0,0))]) (L₁:=g.bl++allB2 (i+1) (digs1.take most) s) rfl (fun Hx hx=> ?_);obtain⟨H',h1,h2⟩:=hx.unappend;refine Ta.callF 6 (by kernel_rfl) rfl (by kernel_rfl) rfl rfl rfl rfl rfl rfl (by decide) (FnT.h (AppendSeq_c M g (canTo most i) g3 (by omega) (i+1) (digs1.take most) (by omega) (digs1_dig most) hdl (by omega) s.1.1 s.1.2 H' Hx ⟨⟨true,h2.get (i:=0) rfl⟩,⟨true,h2.get (i:=1) rfl⟩⟩ h1)) (fun v H₃ hv=> ?_);obtain⟨g',H₂,rfl,q1,q2,q3,q4⟩:=hv;refine Ta.expand q2 ?_;refine Ta.each [7] (by kernel_rfl) rfl ⟨TaOp.mk rfl rfl rfl (.st 0 (zz:=⟨S3.off (by kernel_rfl),?_⟩)),trivial⟩;refine .dn ?_;refine U5 ?_;exact Tc.db (ih ⟨(H₂,i+1,g'),View.le_trans g1 (View.le_trans h2.base q1),by simp only;omega,by simp only;rw[canTo_succ];exact q3,by simp only;rw[canTo_succ,List.length_append,q4,g4]⟩ (by simp only;omega))
theorem Cheapest_c(A:Option Addr)(nw wc:Nat)(w:Nat→Int)(hA:FreeAt H A nw w)(digits most:Nat)(h0:1≤(nw:Int)∧(nw:Int)≤3)(hw:(firstTo (fun j=> !weightOk (w j)) nw).isSome=false)(hd:1≤((digits:Nat):Int)∧((digits:Nat):Int)≤3)(hm:1≤((most:Nat):Int)∧((most:Nat):Int)≤3):
   CallT M 58 #[.slice A nw wc,.int .i64 (digits:Nat),.int .i64 (most:Nat)] H (fun v H'=> H.le H'∧∃a n c',v=cheapV (.slice a n c') (cheap w nw digits most).total (cheap w nw digits most).al∧n=(cheap w nw digits most).best.length∧SrcAt H' 1 (.slice a n c') n (strsV (cheap w nw digits most).best)):=
 CallT.mono (Cheapest_k M H A nw wc w hA digits most h0 hw hd hm) (by
   rintro v H' ⟨h1,a,n,c',h2,h3,h4,_⟩;exact⟨h1,a,n,c',h2,h3,h4⟩)
end
end Go.Proofs.YtldmfjcgjdchcaaGreatDoor
namespace Go.Proofs.YtldmfjcgjdchcaaGreatDoor
open Go.RL Go.Proofs.Tryz
set_option maxRecDepth 10000
theorem ddTo_mem {l:List Int}{x:Int}:∀k,k≤l.length→(x∈ddTo l k↔∃i,i<k∧at0 l i=x)
 | 0,_=> by simp[ddTo]
 | k + 1,hk=> by
   have ih:=ddTo_mem (l:=l) (x:=x) k (by omega);unfold ddTo;split
   · rename_i h
     rw[ih];constructor
     · rintro⟨i,h1,h2⟩;exact⟨i,by omega,h2⟩
     · rintro⟨i,h1,h2⟩;by_cases e:i=k
       · subst e;exact⟨i-1,by omega,by rw[←h.2];exact h2⟩
       · exact⟨i,by omega,h2⟩
   · rw[List.mem_append,ih,List.mem_singleton];constructor
     · rintro(⟨i,h1,h2⟩|rfl)
       · exact⟨i,by omega,h2⟩
       · exact⟨k,by omega,rfl⟩
     · rintro⟨i,h1,h2⟩;by_cases e:i=k
       · subst e;exact .inr h2.symm
       · exact .inl ⟨i,by omega,h2⟩
theorem ddTo_asc {l:List Int}{n:Nat}(hs:Srt 0 n l)(hn:n≤l.length):∀k,k≤n→(ddTo l k).Pairwise (· < ·)
 | 0,_=> List.Pairwise.nil
 | k + 1,hk=> by
   have ih:=ddTo_asc hs hn k (by omega);unfold ddTo;split
   · exact ih
   · rename_i h
     rw[List.pairwise_append];refine⟨ih,List.pairwise_singleton _ _,fun a ha b hb=> ?_⟩;have hb':b=at0 l k:=by simpa using hb
     subst hb';obtain⟨i,h1,rfl⟩:=(ddTo_mem k (by omega)).1 ha;have h2:=hs i (k-1) (Nat.zero_le _);have h3:=hs (k-1) k (Nat.zero_le _) (by omega) (by omega);have h4:at0 l k≠at0 l (k-1):=fun e=> h ⟨by omega,e⟩;by_cases e:i=k-1
     · subst e;omega
     · have:=h2 (by omega) (by omega);omega
theorem Srt.at_mem {l:List Int}{x:Int}:x∈l↔∃i,i<l.length∧at0 l i=x:=by
 rw[List.mem_iff_getElem];constructor
 · rintro⟨i,h,rfl⟩;exact⟨i,h,by unfold at0;rw[List.getElem?_eq_getElem h];rfl⟩
 · rintro⟨i,h,e⟩;refine⟨i,h,?_⟩;unfold at0 at e;rw[List.getElem?_eq_getElem h] at e;exact e
theorem asc_uniq {l m:List Int}(hl:l.Pairwise (· < ·))(hm:m.Pairwise (· < ·))(h:∀x,x∈l↔x∈m):l=m:=by
 have hp:l.Perm m:=(List.perm_ext_iff_of_nodup (List.nodup_iff_pairwise_ne.2 (hl.imp (fun h=> Int.ne_of_lt h))) (List.nodup_iff_pairwise_ne.2 (hm.imp (fun h=> Int.ne_of_lt h)))).2 h;exact List.Perm.eq_of_pairwise (le:=(· ≤·)) (fun a b _ _ h1 h2=> Int.le_antisymm h1 h2) (hl.imp (fun h=> Int.le_of_lt h)) (hm.imp (fun h=> Int.le_of_lt h)) hp
def AscS(l:List (List UInt8)):Prop:=l.Pairwise fun a b=> Op.bytesLess a b=true
theorem ascS_uniq {l m:List (List UInt8)}(hl:AscS l)(hm:AscS m)(h:∀x,x∈l↔x∈m):l=m:=by
 have ne:∀ {a b:List UInt8},Op.bytesLess a b=true→a≠b:=fun h e=> by rw[e,less_irr] at h;cases h
 have hp:l.Perm m:=(List.perm_ext_iff_of_nodup (List.nodup_iff_pairwise_ne.2 (hl.imp ne)) (List.nodup_iff_pairwise_ne.2 (hm.imp ne))).2 h;have le:∀ {a b:List UInt8},Op.bytesLess a b=true→leS a b=true:=fun h=> by unfold leS;rw[less_asym h];rfl
 exact sorted_uniq hp (hl.imp le) (hm.imp le)
def putS(x:List UInt8):List (List UInt8)→List (List UInt8)
 | []=> [x]
 | y::t=> if Op.bytesLess x y then x::y::t else if x=y then y::t else y::putS x t
def ascOf:List (List UInt8)→List (List UInt8)
 | []=> []
 | x::t=> putS x (ascOf t)
theorem mem_putS {x z:List UInt8}:∀l,z∈putS x l↔z=x∨z∈l
 | []=> by simp[putS]
 | y ::t=> by
   unfold putS;split
   · simp
   · split
     · rename_i e
       subst e;simp
     · rw[List.mem_cons,mem_putS t,List.mem_cons];constructor
       · rintro(h|h|h)
         · exact .inr (.inl h)
         · exact .inl h
         · exact .inr (.inr h)
       · rintro(h|h|h)
         · exact .inr (.inl h)
         · exact .inl h
         · exact .inr (.inr h)
theorem putS_asc(x:List UInt8):∀l,AscS l→AscS (putS x l)
 | [],_=> List.pairwise_singleton _ _
 | y ::t,h=> by
   obtain⟨h1,h2⟩:=List.pairwise_cons.1 h;unfold putS;split
   · rename_i hx
     refine List.pairwise_cons.2 ⟨fun z hz=> ?_,h⟩;rcases List.mem_cons.1 hz with rfl|hz
     · exact hx
     · exact less_trans hx (h1 z hz)
   · rename_i hx
     split
     · exact h
     · rename_i hne
       refine List.pairwise_cons.2 ⟨fun z hz=> ?_,putS_asc x t h2⟩;rcases(mem_putS t).1 hz with rfl|hz
       · cases e:Op.bytesLess y z with
         | true=> rfl
         | false=> exact(hne (less_tri (by simpa using hx) e)).elim
       · exact h1 z hz
theorem mem_ascOf {z:List UInt8}:∀l,z∈ascOf l↔z∈l
 | []=> Iff.rfl
 | x::t=> by
   unfold ascOf;rw[mem_putS,mem_ascOf t,List.mem_cons]
theorem ascOf_asc:∀l,AscS (ascOf l)
 | []=> List.Pairwise.nil
 | x::t=> putS_asc x _ (ascOf_asc t)
theorem codes_asc {S:List (List UInt8)}{m:List Int}{n:Nat}(hn:n=S.length)(ht:Turned 0 n (codesS S) m)(hs:Srt 0 n m):(ddTo m n).map (decS S)=ascOf S:=by
 have hml:m.length=n:=by rw[ht.len,hn];simp[codesS]
 have hmem:∀x∈ddTo m n,x∈codesS S:=fun x hx=> by
   obtain⟨i,h1,rfl⟩:=(ddTo_mem n (by omega)).1 hx;exact(ht.mem _).1 (at0_mem (by omega))
 refine ascS_uniq ?_ (ascOf_asc S) (fun z=> ?_)
 · unfold AscS;rw[List.pairwise_map];have h1:=ddTo_asc hs (by omega) n (Nat.le_refl _);refine List.Pairwise.imp_of_mem (fun {a b} ha hb h3=> ?_) h1;rw[codes_enc S a (hmem a ha) b (hmem b hb)];exact decide_eq_true h3
 · rw[mem_ascOf,List.mem_map];constructor
   · rintro⟨x,hx,rfl⟩;obtain⟨s,h1,h2⟩:=List.mem_map.1 (hmem x hx);rw[←h2,dec_rank h1];exact h1
   · intro hz;refine⟨((rankS S z:Nat):Int),?_,dec_rank hz⟩;have h1:((rankS S z:Nat):Int)∈m:=(ht.mem _).2 (List.mem_map.2 ⟨z,hz,rfl⟩);obtain⟨i,h2,h3⟩:=Srt.at_mem.1 h1;exact(ddTo_mem n (by omega)).2 ⟨i,by omega,h3⟩
theorem ascOf_congr {l m:List (List UInt8)}(h:∀x,x∈l↔x∈m):ascOf l=ascOf m:=
 ascS_uniq (ascOf_asc l) (ascOf_asc m) fun x=> by rw[mem_ascOf,mem_ascOf,h]
def putI(x:Int):List Int→List Int
 | []=> [x]
 | y::t=> if x<y then x::y::t else if x=y then y::t else y::putI x t
def ascI:List Int→List Int
 | []=> []
 | x::t=> putI x (ascI t)
theorem mem_putI {x z:Int}:∀l,z∈putI x l↔z=x∨z∈l
 | []=> by simp[putI]
 | y ::t=> by
   unfold putI;split
   · simp
   · split
     · rename_i e
       subst e;simp
     · rw[List.mem_cons,mem_putI t,List.mem_cons];constructor
       · rintro(h|h|h)
         · exact .inr (.inl h)
         · exact .inl h
         · exact .inr (.inr h)
       · rintro(h|h|h)
         · exact .inr (.inl h)
         · exact .inl h
         · exact .inr (.inr h)
theorem putI_asc(x:Int):∀l:List Int,l.Pairwise (· < ·)→(putI x l).Pairwise (· < ·)
 | [],_=> List.pairwise_singleton _ _
 | y ::t,h=> by
   obtain⟨h1,h2⟩:=List.pairwise_cons.1 h;unfold putI;split
   · rename_i hx
     refine List.pairwise_cons.2 ⟨fun z hz=> ?_,h⟩;rcases List.mem_cons.1 hz with rfl|hz
     · exact hx
     · have:=h1 z hz;omega
   · rename_i hx
     split
     · exact h
     · rename_i hne
       refine List.pairwise_cons.2 ⟨fun z hz=> ?_,putI_asc x t h2⟩;rcases(mem_putI t).1 hz with rfl|hz
       · omega
       · exact h1 z hz
theorem mem_ascI {z:Int}:∀l,z∈ascI l↔z∈l
 | []=> Iff.rfl
 | x::t=> by
   unfold ascI;rw[mem_putI,mem_ascI t,List.mem_cons]
theorem ascI_asc:∀l,(ascI l).Pairwise (· < ·)
 | []=> List.Pairwise.nil
 | x::t=> putI_asc x _ (ascI_asc t)
theorem ints_asc {S m:List Int}{n:Nat}(hn:n=S.length)(ht:Turned 0 n S m)(hs:Srt 0 n m):ddTo m n=ascI S:=by
 have hml:m.length=n:=by rw[ht.len,hn]
 refine asc_uniq (ddTo_asc hs (by omega) n (Nat.le_refl _)) (ascI_asc S) (fun z=> ?_);rw[mem_ascI,ddTo_mem n (by omega),←ht.mem z,Srt.at_mem,hml]
set_option maxHeartbeats 16000000
def Bk.heardL(k:Bk):List (List UInt8):=ascOf ((k.earsL k.nt).map (·.heard))
def wordsV(g:Gl 9 1)(a:Int):Value:=.tuple ⟨[g.val,.int .i64 a]⟩
theorem nodup_le {α:Type}:∀ {l m:List α},l.Nodup→(∀x∈l,x∈m)→l.length≤m.length
 | [],_,_,_=> Nat.zero_le _
 | x ::t,m,hn,hs=> by
   obtain⟨h1,h2⟩:=List.nodup_cons.1 hn;obtain⟨a,b,rfl⟩:=List.append_of_mem (hs x (List.mem_cons_self ..));have:=nodup_le (l:=t) (m:=a++b) h2 (fun y hy=> by
     have:=hs y (List.mem_cons_of_mem _ hy);rcases List.mem_append.1 this with h|h
     · exact List.mem_append_left _ h
     · rcases List.mem_cons.1 h with rfl|h
       · exact(h1 hy).elim
       · exact List.mem_append_right _ h)
   simp only[List.length_append,List.length_cons] at this ⊢;omega
theorem ears_size {k:Bk}{es:Array MapEntry}{cl n:Nat}(h:MapOk es cl (earF (k.earsS n))):es.size≤(k.earsL n).length:=by
 have hsub:∀x∈es.toList.map (·.key),x∈(k.earsL n).map Ear.val:=by
   intro x hx;obtain⟨e,he,rfl⟩:=List.mem_map.1 hx;obtain⟨y,h1,h2,_⟩:=earF_keys h e he;exact List.mem_map.2 ⟨y,(k.mem_earsL n y).2 h1,h2.symm⟩
 have:=nodup_le h.keys hsub;simpa using this
section
variable(M:Md prog)(H:View)
end
set_option maxHeartbeats 8000000
section
variable(M:Md prog)(H:View)
end
end Go.Proofs.YtldmfjcgjdchcaaGreatDoor
namespace Go.RL
open Go.Conc Go.ConcN Go.RL.Au
open Go.ConcR (stA smA)
open Go.ConcM (muA OsLater)
section
variable {X:Fk}{B:View}{base N:Nat}{os0:Os0}{w w':World}{t:Trace}{ths:List Th}{m m':Mn}{s s':Sh}{H:Nat→View}{D:Nat→Bool}{fn:FuncId}{pos:String}
theorem set_get {ths:List Th}{κ:Nat}{T T':Th}(hκ:ths[κ]? =some T):∀(κ':Nat) T'',(ths.set κ T')[κ']? =some T''→(κ'=κ∧T''=T')∨(κ'≠κ∧ths[κ']? =some T''):=fun κ' T'' h'=> by
 by_cases e:κ=κ'
 · subst e;rw[List.getElem?_set_self (List.getElem?_eq_some_iff.1 hκ).1] at h';cases h'
   exact .inl ⟨rfl,rfl⟩
 · rw[List.getElem?_set_ne e] at h';exact .inr ⟨Ne.symm e,h'⟩
theorem one_mark(i:Nat)(mm:Mark):MemOp.ofEvents i fn pos #[Go.ConcR.mk mm]=#[{ g:=i,fn,pos,act:=.mark mm }]:=by
 rw[ofEvents_eq];simp[Go.ConcR.ofEvent_mk]
theorem mark_deaf {i j:Nat}{mm:Mark}(h1:mm≠ .disable)(h2:mm≠ .enable):Deaf (t++MemOp.ofEvents i fn pos #[Go.ConcR.mk mm]) j=Deaf t j:=by
 refine Deaf_still t j _ fun op hop=> ?_;rw[one_mark] at hop;simp at hop
 subst hop;simp[h1,h2]
theorem also_ne {D:Nat→Bool}{κ κ':Nat}(e:κ'≠κ):also D κ κ'=D κ':=by simp[also,e]
theorem WT.ownW(h:WT X B base N os0 w t ths m s H D)(ne:X.Wg≠X.C){κ:Nat}(hκ:ths[κ]? =some .pw)(hN:base+κ<N){w':World}{o':Obj}{es:Array Event}{D':Nat→Bool}(ht:OwnW X κ w w' o' es)(hG:X.GI D' o'):
   WT X B base N os0 w' (t++MemOp.ofEvents (base+κ) fn pos es) (ths.set κ .wr) m s H D':=by
 obtain⟨_,h3,h4⟩:=h.free;have hops:∀op∈MemOp.ofEvents (base+κ) fn pos es,op.g=base+κ∧op.act=MemAct.ofEvent ⟨.cell ⟨X.C,κ,none⟩,true,false⟩:=by
   rw[ofEvents_eq];intro op hop;obtain⟨e,he,rfl⟩:=Array.mem_map.1 hop;rw[ht.ev e he];exact⟨rfl,rfl⟩
 have hown:∀op∈MemOp.ofEvents (base+κ) fn pos es,op.g=base+κ:=fun op hop=> (hops op hop).1;have hto:∀op∈MemOp.ofEvents (base+κ) fn pos es,∀a,op.act.touch? =some a→a.kind=.plain∧a.loc=.cell ⟨X.C,κ,none⟩:=fun op hop a ha=> by
   rw[(hops op hop).2] at ha;simp[MemAct.ofEvent,MemAct.touch?] at ha
   subst ha;exact⟨rfl,rfl⟩
 have hdd:∀j,Deaf (t++MemOp.ofEvents (base+κ) fn pos es) j=Deaf t j:=fun j=> Deaf_still t j _ fun op hop=> by rw[(hops op hop).2];simp[MemAct.ofEvent]
 have hsat:∀V:View,V X.C=none→Sat V w→Sat V w':=fun V hV hs b f o hbb=> by
   rw[ht.rest b (by rintro rfl;rw[hV] at hbb;cases hbb)];exact hs b f o hbb
 refine⟨⟨by rw[ht.rest _ ne];exact h.sh.wg⟩,by rw[ht.size];exact h.cb,⟨fun g=> hsat _ (h3 g) (h.vi.sat g),h.vi.dj,h.vi.sh,hsat _ h.vi.bn.2 h.vi.bs,h.vi.bd,h.vi.bn⟩,h.hx,?_,⟨⟨o',ht.at_,hG⟩,h3,h4.own hown hto⟩,fun κ' T hκ' hT=> ?_,by rw[hdd];exact h.df0,fun κ' T hκ' hT=> ?_,h.os.trans ht.os⟩
 · rw[ht.size];exact h.ti.own h4 hN hown hto (fun op hop a e=> by rw[(hops op hop).2] at e;simp[MemAct.ofEvent] at e) h3 ⟨Ne.symm ne,Ne.symm ne⟩ h.cb
 · rcases set_get hκ κ' T hκ' with ⟨rfl,rfl⟩|⟨e,hκ''⟩
   · cases hT
   · obtain⟨r,hr⟩:=h.muted κ' T hκ'' hT;exact⟨r,hr.appOther (g:=base+κ) hown (by omega)⟩
 · rw[hdd];rcases set_get hκ κ' T hκ' with ⟨rfl,rfl⟩|⟨e,hκ''⟩
   · exact h.dfw κ' .pw hκ (by simp)
   · exact h.dfw κ' T hκ'' hT
theorem WT.mute(h:WT X B base N os0 w t ths m s H D)(ne:X.Wg≠X.C){κ:Nat}(hκ:ths[κ]? =some .wr)(hN:base+κ<N):
   WT X B base N os0 w (t++MemOp.ofEvents (base+κ) fn pos #[Go.ConcR.mk (.releaseMerge (stA X.Wg))]) (ths.set κ .wk) m s H D:=by
 have hlt:=(List.getElem?_eq_some_iff.1 hκ).1;have hact:Act base N (base+κ):=.inr ⟨by omega,hN⟩;have hop:=mark_op (X:=X) (H:=H (base+κ)) (g:=base+κ) (fn:=fn) (pos:=pos) (m:=.releaseMerge (stA X.Wg)) (t:=t) (fun x hx=> by cases hx) (fun a e=> by cases e);have hd0:Deaf t (base+κ)=0:=h.dfw κ _ hκ (by simp);have hdd:∀j,Deaf (t++MemOp.ofEvents (base+κ) fn pos #[Go.ConcR.mk (.releaseMerge (stA X.Wg))]) j=Deaf t j:=fun j=> mark_deaf (by simp) (by simp);refine⟨h.sh,h.cb,h.vi,h.hx,h.tiOwn ne hact hN hop,?_,fun κ' T hκ' hT=> ?_,by rw[hdd];exact h.df0,fun κ' T hκ' hT=> ?_,h.os⟩
 · obtain⟨h1,h3,h4⟩:=h.free;refine⟨h1,h3,h4.grow fun op hopm x hx=> ?_⟩;rw[one_mark] at hopm;simp at hopm
   subst hopm;cases hx
 · rcases set_get hκ κ' T hκ' with ⟨rfl,rfl⟩|⟨e,hκ''⟩
   · exact⟨_,RelBy.new hd0 fn pos⟩
   · obtain⟨r,hr⟩:=h.muted κ' T hκ'' hT;exact⟨r,hr.appOther (g:=base+κ) hop.own (by omega)⟩
 · rw[hdd];rcases set_get hκ κ' T hκ' with ⟨rfl,rfl⟩|⟨e,hκ''⟩
   · exact hd0
   · exact h.dfw κ' T hκ'' hT
theorem ro_some {R:View}{b:Nat}{f:Bool}{o:Obj}(h:ro R b=some (f,o)):f=false∧∃f',R b=some (f',o):=by
 unfold ro at h;obtain⟨x,hx,he⟩:=Option.map_eq_some_iff.1 h;cases he
 exact⟨rfl,x.1,hx⟩
theorem ro_none {R:View}{b:Nat}(h:R b=none):ro R b=none:=by simp[ro,h]
theorem WT.fork(h:WT X B base N os0 w t ths .go s H D)(hb:1≤base)(hN:N=base+ths.length)(hm:m'.deaf=0){x y:MemOp}(hx:x.g=0∧x.act=.go N)(hy:y.g=N∧y.act=.start):
   WT X B base (N+1) os0 w (t ++ #[x,y]) (ths++[.pw]) m' s (upd (upd H 0 (ro (H 0))) N (ro (H 0))) D:=by
 have hN0:N≠0:=by omega
 have hHN:∀b,H N b=none:=h.hx N fun hh=> hh.elim hN0 fun hh=> by omega
 have hd0:Deaf t 0=0:=h.df0;have hops:∀op∈#[x,y],op.act≠ .mark .disable∧op.act≠ .mark .enable:=by
   intro op hop;simp only[List.mem_toArray,List.mem_cons,List.not_mem_nil,or_false] at hop;rcases hop with rfl|rfl
   · rw[hx.2];simp
   · rw[hy.2];simp
 have hdd:∀j,Deaf (t ++ #[x,y]) j=Deaf t j:=fun j=> Deaf_still t j _ hops;have hV:∀j b,upd (upd H 0 (ro (H 0))) N (ro (H 0)) j b=if j=N∨j=0 then ro (H 0) b else H j b:=fun j b=> by
   by_cases e:j=N
   · subst e;rw[upd_same,if_pos (.inl rfl)]
   · rw[upd_ne _ _ e];by_cases e0:j=0
     · subst e0;rw[upd_same,if_pos (.inr rfl)]
     · rw[upd_ne _ _ e0,if_neg (by simp[e,e0])]
 have get:∀(κ:Nat) T,(ths++[Th.pw])[κ]? =some T→ths[κ]? =some T∨(κ=ths.length∧T=.pw):=fun κ T hκ=> by
   rw[List.getElem?_append] at hκ;split at hκ
   · exact .inl hκ
   · cases hz:κ-ths.length with
     | zero=> rw[hz] at hκ;cases hκ;exact .inr ⟨by omega,rfl⟩
     | succ z=> rw[hz] at hκ;cases hκ
 refine⟨h.sh,h.cb,⟨fun j b f o hbb=> ?_,fun i j hij b o hi=> ?_,fun j=> ?_,h.vi.bs,fun j b x' o hbb hj=> ?_,h.vi.bn⟩,fun g hg b=> ?_,?_,?_,fun κ T hκ hT=> ?_,by rw[hdd,hm];exact hd0,fun κ T hκ hT=> ?_,h.os⟩
 · rw[hV] at hbb;split at hbb
   · obtain⟨_,f',h1⟩:=ro_some hbb;exact h.vi.sat 0 b f' o h1
   · exact h.vi.sat j b f o hbb
 · rw[hV] at hi ⊢;split at hi
   · have:=(ro_some hi).1;cases this
   · split
     · exact ro_none (h.vi.dj i 0 (by omega) b o hi)
     · exact h.vi.dj i j hij b o hi
 · rw[hV];split
   · exact ro_none (h.vi.sh 0)
   · exact h.vi.sh j
 · rw[hV] at hj;split at hj
   · have:=(ro_some hj).1;cases this
   · exact h.vi.bd j b x' o hbb hj
 · rw[hV,if_neg (by
     rintro(rfl|rfl)
     · exact hg (.inr ⟨by omega,by omega⟩)
     · exact hg (.inl rfl))]
   exact h.hx g (fun hh=> hg (hh.imp id fun⟨h1,h2⟩=> ⟨h1,by omega⟩)) b
 · exact h.ti.fork hx hy hd0 (by omega) (by omega) (fun b f o hbb=> ro_some hbb) hHN
 · obtain⟨h1,h3,h4⟩:=h.free;refine⟨h1,fun g=> ?_,h4.fork h.ti.gs hx hy hd0⟩;rw[hV];split
   · exact ro_none (h3 0)
   · exact h3 g
 · rcases get κ T hκ with hκ'|⟨_,rfl⟩
   · obtain⟨r,hr⟩:=h.muted κ T hκ' hT;have hlt:=(List.getElem?_eq_some_iff.1 hκ').1;refine⟨r,hr.app fun i hi hgi hc=> ?_⟩;obtain⟨a,ha,_⟩:=hc;obtain⟨op,hop,hopa⟩:=touch_of ha;rcases getElem?_append_cases hop with ⟨hl,_⟩|⟨_,hopu⟩
     · omega
     · simp only[List.mem_toArray,List.mem_cons,List.not_mem_nil,or_false] at hopu;rcases hopu with rfl|rfl
       · rw[hx.2] at hopa;cases hopa
       · rw[hy.2] at hopa;cases hopa
   · cases hT
 · rw[hdd];rcases get κ T hκ with hκ'|⟨rfl,rfl⟩
   · exact h.dfw κ T hκ' hT
   · rw[←hN];exact Deaf_absent fun i op hi e=> by have:=h.ti.gs i op hi;omega
end
theorem mn_nil {s:Sh}{t:Mn}(hp:t.plain=true)(hm:t.mv s= []):t=.ws∧s.q=0:=by
 cases t <;> simp only[Mn.mv] at hm
 case go=> cases hp
 case ret=> cases hp
 case ws=>
   split at hm
   · exact⟨rfl,by assumption⟩
   · cases hm
 case w2=> split at hm <;> cases hm
 all_goals cases hm
theorem TI.bare {Mu Wg C base N hs g:Nat}{H:Nat→View}{B:View}{t u:Trace}(h:TI Mu Wg C base N hs H B t)(hg:∀op∈u,op.g=g)(hN:g<N)(hu:∀op∈u,op.act.touch? =none)(hr:∀op∈u,∀a,op.act≠ .mark (.release a)):TI Mu Wg C base N hs H B (t++u):=by
 have old:∀ {i:Nat} {a:Touch},touchAt (t++u) i=some a→touchAt t i=some a∧i<t.size:=by
   intro i a ha;rcases touch_cases ha with ⟨hi,ha'⟩|⟨hi,op,hop,_,hxx⟩
   · exact⟨ha',hi⟩
   · rw[hu op hop] at hxx;cases hxx
 have oldop:∀ {i:Nat} {op:MemOp} {a:Touch},(t++u)[i]? =some op→op.act.touch? =some a→t[i]? =some op∧i<t.size:=by
   intro i op a hop ha;rcases getElem?_append_cases hop with ⟨hi,hop'⟩|⟨hi,hopu⟩
   · exact⟨hop',hi⟩
   · rw[hu op hopu] at ha;cases ha
 refine⟨fun said=> noRace_append (h.nr said) hg fun i a _ op hop b hb _=> (by rw[hu op hop] at hb;cases hb),fun i a b ha hb=> h.bd i a b (old ha).1 hb,fun j hj i a b f o ha hb hH hw=> (h.kn j hj i a b f o (old ha).1 hb hH hw).app u,
   fun i op a hop ha hk hlt=> (h.pl i op a (oldop hop ha).1 ha hk hlt).app u,fun i a b ha hk hb=> h.np i a b (old ha).1 hk hb,fun i op a hop ha hk=> ?_,fun j hj i a b ha hk hb hbb=> (h.sy j hj i a b (old ha).1 hk hb hbb).app u,fun a=> (h.rel a).app fun op hop=> hr op hop a,fun i op hop=> ?_,fun i a ha=> h.mem i a (old ha).1⟩
 · obtain⟨h3,hi⟩:=oldop hop ha;obtain⟨h1,h2⟩:=h.np2 i op a h3 ha hk;exact⟨h1,fun e e'=> by rw[heard_old hi];exact h2 e e'⟩
 · rcases getElem?_append_cases hop with ⟨hi,hop'⟩|⟨hi,hopu⟩
   · exact h.gs i op hop'
   · rw[hg op hopu];exact hN
theorem mute_ops {g:Nat}{fn:FuncId}{pos:String}{es:Array Event}(h:∀e∈es,e.mute=true):∀op∈MemOp.ofEvents g fn pos es,op.g=g∧op.act.touch? =none∧∀a,op.act≠ .mark (.release a):=by
 rw[ofEvents_eq];intro op hop;obtain⟨e,he,rfl⟩:=Array.mem_map.1 hop;have:=h e he;obtain⟨loc,wr,sy⟩:=e;cases loc with
 | mark m=> cases m <;> simp[Event.mute] at this <;> simp[MemAct.ofEvent,MemAct.touch?]
 | _=> simp[Event.mute] at this
section
variable {P:Program}{X:Fk}{Fin:Goroutine→Prop}{B:View}{base:Nat}{os0:Os0}{gs:Array Goroutine}{w:World}{t:Trace}{ths:List Th}{m:Mn}{s:Sh}{H:Nat→View}{ks:Nat→Nat}{rks:List Rank}{q:Nat→Nat}{D:Nat→Bool}
variable {sl:Option (Nat×Nat)}
theorem WT.leave {N:Nat}(h:WT X B base N os0 w t ths m s H D){i:Nat}{fn:FuncId}{pos:String}{es:Array Event}(hi:0<i)(hN:i<N)(hm:∀e∈es,e.mute=true)(hq:∀(κ:Nat) T,ths[κ]? =some T→base+κ=i→T=.quit):
   WT X B base N os0 w (t++MemOp.ofEvents i fn pos es) ths m s H D:=by
 have ho:=mute_ops (g:=i) (fn:=fn) (pos:=pos) hm;have hown:∀op∈MemOp.ofEvents i fn pos es,op.g=i:=fun op hop=> (ho op hop).1;refine⟨h.sh,h.cb,h.vi,h.hx,h.ti.bare hown hN (fun op hop=> (ho op hop).2.1) (fun op hop=> (ho op hop).2.2),?_,fun κ T hκ hT=> ?_,?_,fun κ T hκ hT=> ?_,h.os⟩
 · obtain⟨h1,h3,h4⟩:=h.free;exact⟨h1,h3,h4.grow fun op hop x hx=> by rw[(ho op hop).2.1] at hx;cases hx⟩
 · obtain⟨r,hr⟩:=h.muted κ T hκ hT;refine⟨r,hr.app fun j hj hgj hc=> ?_⟩;obtain⟨a,ha,_⟩:=hc;obtain⟨op,hop,hopa⟩:=touch_of ha;rcases getElem?_append_cases hop with ⟨hl,_⟩|⟨_,hopu⟩
   · omega
   · rw[(ho op hopu).2.1] at hopa;cases hopa
 · rw[Deaf_other t (g:=0) (g':=i) (by omega) _ hown];exact h.df0
 · have e:i≠base+κ:=fun e=> hT (hq κ T hκ e.symm);rw[Deaf_other t (g:=base+κ) (g':=i) e _ hown];exact h.dfw κ T hκ hT
theorem PI.pos(h:PI P X Fin B base os0 gs w t ths m s H ks rks q D):∀i,Act base gs.size i→0<ks i:=fun i hi=> Nat.lt_of_le_of_lt (Nat.zero_le _) (h.depth i hi)
theorem PI.at(h:PI P X Fin B base os0 gs w t ths m s H ks rks q D)(d:Nat):PI P X Fin B base os0 gs (w.at d) t ths m s H ks rks q D:=⟨h.inv,h.b1,h.ne,h.dd,h.depth,h.wt.at d,h.si⟩
def PI.meas(X:Fk)(gs:Array Goroutine)(ths:List Th)(m:Mn)(s:Sh)(rks:List Rank)(q:Nat→Nat):Meas:=(mu X.n ths m s,rks,sumTo gs.size q,runs gs)
def Goes(P:Program)(X:Fk)(Fin:Goroutine→Prop)(B:View)(base:Nat)(os0:Os0)(μ:Meas)(w:World)(t:Trace)(gs:Array Goroutine)(r:Stepped×Array MemOp):Prop:=
 (∃gs' w' sl' ops ths' m' s' H' ks' rks' q' D',r=(.next (crowd gs' w' sl'),ops)∧PI P X Fin B base os0 gs' w' (t++ops) ths' m' s' H' ks' rks' q' D'∧LtMeas (PI.meas X gs' ths' m' s' rks' q') μ)∨
 (∃gs' sl' g g' ths s H ks rks q D,gs[0]? =some g∧r=(.next (crowd gs' w sl'),MemOp.ofEvents 0 g.frame.fn g.frame.place #[Go.ConcR.mk (.acquire (stA X.Wg))])∧gs'=stepd P gs 0 g g' w∧Fin g'∧PI P X Fin B base os0 gs w t ths .aq s H ks rks q D)
theorem PI.dd_set(h:PI P X Fin B base os0 gs w t ths m s H ks rks q D){κ:Nat}{T T':Th}(hκ:ths[κ]? =some T)(hd:T'.did=T.did):∀κ',D κ'=(((ths.set κ T')[κ']?).map Th.did).getD false:=fun κ'=> by
 rw[h.dd κ'];by_cases e:κ=κ'
 · subst e;rw[List.getElem?_set_self (List.getElem?_eq_some_iff.1 hκ).1,hκ];simp[hd]
 · rw[List.getElem?_set_ne e]
theorem deaf_others {i:Nat}{u:Trace}(hu:∀op∈u,op.g=i):∀j,j≠i→Deaf (t++u) j=Deaf t j:=fun j hj=> Deaf_other t (g:=j) (g':=i) (Ne.symm hj) u hu
theorem ofEvents_g {g:Nat}{fn:FuncId}{pos:String}{es:Array Event}:∀op∈MemOp.ofEvents g fn pos es,op.g=g:=by
 rw[ofEvents_eq];intro op hop;obtain⟨e,_,rfl⟩:=Array.mem_map.1 hop;rfl
theorem lt_mu {a b:Nat}{x y:List Rank×(Nat×Nat)}(h:a<b):LtMeas (a,x) (b,y):=.left _ _ h
theorem lt_rk {a:Nat}{x y:List Rank}{u v:Nat×Nat}(h:LtL x y):LtMeas (a,x,u) (a,y,v):=.right _ (.left _ _ h)
theorem lt_q {a b c:Nat}{x:List Rank}{u v:Nat}(h:b<c):LtMeas (a,x,b,u) (a,x,c,v):=.right _ (.right _ (.left _ _ h))
theorem lt_run {a b:Nat}{x:List Rank}{u v:Nat}(h:u<v):LtMeas (a,x,b,u) (a,x,b,v):=.right _ (.right _ (.right _ h))
theorem runs_block {i:Nat}{g g':Goroutine}(hi:gs[i]? =some g)(hg:g.status=.running)(hg':g'.status=.blocked):runs (stepd P gs i g g' w)<runs gs:=by
 have e:stepd P gs i g g' w=gs.setIfInBounds i g':=by
   unfold stepd;have:woken P g g' w=id:=by
     funext o
     simp[woken,hg']
   rw[this,Array.map_id]
 rw[e];obtain⟨hlt,rfl⟩:=Array.getElem?_eq_some_iff.1 hi;unfold runs;rw[Array.toList_setIfInBounds];have:=List.countP_set (p:=fun g:Goroutine=> g.status==.running) (l:=gs.toList) (i:=i) (a:=g') (by simpa using hlt);rw[this];have h1:((gs.toList[i]'(by simpa using hlt)).status==GoStatus.running)=true:=by simpa using hg
 have h2:0<gs.toList.countP fun g:Goroutine=> g.status==.running:=List.countP_pos_iff.2 ⟨gs[i],by simp,by simp[hg]⟩;have h3:¬(g'.status==GoStatus.running)=true:=by simp[hg']
 rw[if_pos h1,if_neg h3];omega
theorem PI.moveW(h:PI P X Fin B base os0 gs w t ths m s H ks rks q D){κ k:Nat}{T T':Th}{s':Sh}{g g':Goroutine}{w':World}{es:Array Event}{H':View}{D':Nat→Bool}{ρ':Rank}{q':Nat}(hκ:ths[κ]? =some T)(hg:gs[base+κ]? =some g)(hk:ks (base+κ)=k+1)
   (hm:(T',s')∈T.mv s) (hst:stepG P false g w=.go g' w' es) (hwt:WT X B base gs.size os0 w' (t++MemOp.ofEvents (base+κ) g.frame.fn g.frame.place es) (ths.set κ T') m s' (upd H (base+κ) H') D')
   (hs:SitW P X κ T' k H' ρ' q' (Deaf (t++MemOp.ofEvents (base+κ) g.frame.fn g.frame.place es) (base+κ)) g') (hdd:∀κ',D' κ'=(((ths.set κ T')[κ']?).map Th.did).getD false)
   (hQ:s'.q≤s.q∨(mayWake P g=true∧g'.status=.running)):
   Goes P X Fin B base os0 (PI.meas X gs ths m s rks q) w t gs (runT P (crowd gs w sl) (base+κ)):=by
 have hN:base+κ<gs.size:=(Array.getElem?_eq_some_iff.1 hg).1;have hb:=h.b1;have hact:Act base gs.size (base+κ):=.inr ⟨by omega,hN⟩;have hi0:(base+κ==0)=false:=by simp;omega
 have hmu:=mu_worker h.inv hκ hm;have hdep:=h.depth _ hact;rw[hk] at hdep;have hsi:=h.si.worker (w':=w') (g:=g) (g':=g') (T':=T') (H':=H') (k':=k) (q':=q') (ρ':=ρ') (s':=s') hb h.pos hκ (deaf_others ofEvents_g) hQ hs;refine .inl ⟨stepd P gs (base+κ) g g' w',w',sl,_,ths.set κ T',m,s',_,_,_,_,D',runT_crowd_go hg (by rw[hi0];exact hst),⟨h.inv.step hκ hm,hb,h.ne,hdd,fun j hj=> ?_,?_,hsi⟩,lt_mu hmu⟩
 · rw[stepd_size] at hj;by_cases e:j=base+κ
   · subst e;rw[upd_same];omega
   · rw[upd_ne _ _ e];exact Nat.lt_trans hmu (h.depth j hj)
 · rw[stepd_size];exact hwt
theorem PI.stopW(h:PI P X Fin B base os0 gs w t ths m s H ks rks q D){κ k:Nat}{T:Th}{g:Goroutine}(hκ:ths[κ]? =some T)(hg:gs[base+κ]? =some g)(hk:ks (base+κ)=k+1)
   (hs:WS P X κ (k+1) T (H (base+κ)) g):
   Goes P X Fin B base os0 (PI.meas X gs ths m s rks q) w t gs (runT P (crowd gs w sl) (base+κ)):=by
 have hN:base+κ<gs.size:=(Array.getElem?_eq_some_iff.1 hg).1;have hb:=h.b1;obtain⟨_,pw,wr,qt,pl⟩:=hs;have hsat:=h.wt.vi.sat (base+κ);have hselfH:upd H (base+κ) (H (base+κ))=H:=upd_eq _ _;have hlt:=(List.getElem?_eq_some_iff.1 hκ).1;have hDκ:D κ=T.did:=by rw[h.dd κ,hκ];rfl
 cases hp:T.plain with
 | true=>
   obtain⟨hok,hfit⟩:=h.inv.ok hκ;obtain⟨T',s',g',w',es,hm,hst,htu,hqe,hra,hrun,hq1,hq2,hq3⟩:=pl hp w s hsat h.wt.sh hok hfit;obtain⟨k2,k3⟩:=mv_keeps hp hm;have hwt:=h.wt.stopW (fn:=g.frame.fn) (pos:=g.frame.place) h.ne hb hκ hN hp hm htu hqe;have hdd:=h.dd_set hκ k2;have hQ:s'.q≤s.q∨(mayWake P g=true∧g'.status=.running):=by
     cases hra':T.raises with
     | true=> exact .inr ⟨hra hra',hrun⟩
     | false=> exact .inl (mv_low hra' hm)
   by_cases hquit:T'=.quit
   · obtain⟨q',hq'⟩:=hq1 hquit;refine h.moveW hκ hg hk hm hst (H':=H (base+κ)) (D':=D) (ρ':=.stop) (q':=q') (by rw[hselfH];exact hwt) (.quit hquit ?_) hdd hQ;have:Deaf (t++MemOp.ofEvents (base+κ) g.frame.fn g.frame.place es) (base+κ)=1:=by
       rw[Deaf_own,h.wt.dfw κ T hκ (by rintro rfl;cases hp),hqe.net,hquit];rfl
     rw[this];exact hq'
   · cases hmu:T'.mute with
     | true=>
       obtain⟨n,hn⟩:=hq2 hquit hmu;exact h.moveW hκ hg hk hm hst (H':=H (base+κ)) (D':=D) (ρ':=natRank n) (q':=q (base+κ)) (by rw[hselfH];exact hwt) (.quiet n ⟨hquit,hmu⟩ rfl hn) hdd hQ
     | false=>
       obtain⟨ρ',hρ'⟩:=(hq3 hmu).rank;exact h.moveW hκ hg hk hm hst (H':=H (base+κ)) (D':=D) (ρ':=ρ') (q':=q (base+κ)) (by rw[hselfH];exact hwt) (.walk hmu hρ') hdd hQ
 | false=>
   have hcase:T=.pw∨T=.wr∨T=.quit:=by cases T <;> simp[Th.plain] at hp <;> simp
   rcases hcase with rfl|rfl|rfl
   · obtain⟨⟨o,h1,h2⟩,_,_⟩:=h.wt.free;obtain⟨g',w',o',es,hst,how,hG,hT'⟩:=pw rfl D o hDκ h2 w hsat h1;obtain⟨ρ',hρ'⟩:=hT'.rank;have hwt:=h.wt.ownW (fn:=g.frame.fn) (pos:=g.frame.place) h.ne hκ hN how hG;refine h.moveW hκ hg hk (T':=.wr) (s':=s) (by simp[Th.mv]) hst (H':=H (base+κ)) (by rw[hselfH];exact hwt) (q':=q (base+κ)) (.walk rfl hρ') (fun κ'=> ?_) (.inl (Nat.le_refl _));by_cases e:κ'=κ
     · subst e;rw[List.getElem?_set_self hlt];simp[also,Th.did]
     · rw[List.getElem?_set_ne (Ne.symm e),←h.dd κ',also_ne e]
   · obtain⟨g',hst,n,hn⟩:=wr rfl w hsat;have hwt:=h.wt.mute (fn:=g.frame.fn) (pos:=g.frame.place) h.ne hκ hN;exact h.moveW hκ hg hk (T':=.wk) (s':=s) (by simp[Th.mv]) hst (H':=H (base+κ)) (D':=D) (ρ':=natRank n) (q':=q (base+κ)) (by rw[hselfH];exact hwt) (.quiet n ⟨by simp,rfl⟩ rfl hn) (h.dd_set hκ rfl) (.inl (Nat.le_refl _))
   · exact(qt rfl).elim
theorem PI.worker(h:PI P X Fin B base os0 gs w t ths m s H ks rks q D){κ:Nat}{T:Th}{g:Goroutine}(hκ:ths[κ]? =some T)(hg:gs[base+κ]? =some g)(hr:g.status=.running):
   Goes P X Fin B base os0 (PI.meas X gs ths m s rks q) w t gs (runT P (crowd gs w sl) (base+κ)):=by
 have hN:base+κ<gs.size:=(Array.getElem?_eq_some_iff.1 hg).1;have hlt:=(List.getElem?_eq_some_iff.1 hκ).1;have hb:=h.b1;have hact:Act base gs.size (base+κ):=.inr ⟨by omega,hN⟩;have hi0:(base+κ==0)=false:=by simp;omega
 obtain⟨g₁,ρ,h1,h2,hsit⟩:=h.si.work κ T hκ;rw[hg] at h1;cases h1
 have hkp:=h.pos _ hact;obtain⟨k,hk⟩:∃k,ks (base+κ)=k+1:=⟨ks (base+κ)-1,by omega⟩
 have hdep:=h.depth _ hact;rw[hk] at hsit hdep;have hself:upd ks (base+κ) (ks (base+κ))=ks:=upd_eq _ _;have hselfq:upd q (base+κ) (q (base+κ))=q:=upd_eq _ _;have hselfH:upd H (base+κ) (H (base+κ))=H:=upd_eq _ _
 -- a step that leaves the automaton where it is
 have stay:∀(g':Goroutine) (w':World) (es:Array Event) (H':View) (q':Nat) (ρ':Rank),stepG P false g w=.go g' w' es→
     WT X B base gs.size os0 w' (t++MemOp.ofEvents (base+κ) g.frame.fn g.frame.place es) ths m s (upd H (base+κ) H') D→
     SitW P X κ T (k+1) H' ρ' q' (Deaf (t++MemOp.ofEvents (base+κ) g.frame.fn g.frame.place es) (base+κ)) g'→
     LtMeas (PI.meas X (stepd P gs (base+κ) g g' w') ths m s (rks.set (base+κ) ρ') (upd q (base+κ) q')) (PI.meas X gs ths m s rks q)→
     Goes P X Fin B base os0 (PI.meas X gs ths m s rks q) w t gs (runT P (crowd gs w sl) (base+κ)):=by
   intro g' w' es H' q' ρ' hst hwt hs' hlt';have hsets:ths.set κ T=ths:=by
     apply List.ext_getElem?
     intro j;by_cases e:κ=j
     · subst e;rw[List.getElem?_set_self hlt,hκ]
     · rw[List.getElem?_set_ne e]
   have hsi:=h.si.worker (w':=w') (g:=g) (g':=g') (T':=T) (H':=H') (k':=k+1) (q':=q') (ρ':=ρ') (s':=s) hb h.pos hκ (deaf_others ofEvents_g) (.inl (Nat.le_refl _)) hs';rw[hsets] at hsi;refine .inl ⟨stepd P gs (base+κ) g g' w',w',sl,MemOp.ofEvents (base+κ) g.frame.fn g.frame.place es,ths,m,s,upd H (base+κ) H',upd ks (base+κ) (k+1),rks.set (base+κ) ρ',upd q (base+κ) q',D,runT_crowd_go hg (by rw[hi0];exact hst),⟨h.inv,hb,h.ne,h.dd,fun j hj=> ?_,?_,hsi⟩,hlt'⟩
   · rw[stepd_size] at hj;by_cases e:j=base+κ
     · subst e;rw[upd_same];exact hdep
     · rw[upd_ne _ _ e];exact h.depth j hj
   · rw[stepd_size];exact hwt
 cases hsit with
 | quit hT hq=>
   cases hqq:q (base+κ) with
   | zero=> rw[hqq] at hq;rw[hq.1] at hr;cases hr
   | succ q'=>
     rw[hqq] at hq;rcases hq with ⟨hf,_⟩|⟨_,g',es,hmu,hst,hq'⟩
     · rw[hf] at hr;cases hr
     · have hrk:rks.set (base+κ) ρ=rks:=by
         apply List.ext_getElem?
         intro j;by_cases e:base+κ=j
         · subst e;rw[List.getElem?_set_self (by rw[h.si.rsz];exact hN),h2]
         · rw[List.getElem?_set_ne e]
       have hwt:=h.wt.leave (i:=base+κ) (fn:=g.frame.fn) (pos:=g.frame.place) (by omega) hN hmu fun κ' T' hκ' e=> by
         obtain rfl:κ'=κ:=by omega
         rw[hκ] at hκ';cases hκ'
         exact hT
       refine stay g' w es (H (base+κ)) q' ρ (hst w) (by rw[hselfH];exact hwt) (.quit hT (by rw[Deaf_own];exact hq')) ?_;rw[hrk];unfold PI.meas;rw[stepd_size];refine lt_q ?_;have:=sumTo_upd (f:=q) q' (fun a=> a) (i:=base+κ) (j:=gs.size) hN;have e:sumTo gs.size (fun a=> upd q (base+κ) q' a)=sumTo gs.size (upd q (base+κ) q'):=rfl;have e2:sumTo gs.size (fun a=> q a)=sumTo gs.size q:=rfl;omega
 | quiet n hT hρ hgo=>
   cases n with
   | succ n=>
     obtain⟨_,g',hst,hgo'⟩:=hgo;refine stay g' w #[] (H (base+κ)) (q (base+κ)) (natRank n) (hst w) (by rw[hselfH];simpa [MemOp.ofEvents] using h.wt) (.quiet n hT rfl hgo') ?_;unfold PI.meas;refine lt_rk (LtL.set h2 ?_);rw[hρ];exact natRank_lt n
   | zero=> exact h.stopW hκ hg hk hgo
 | walk hT hgo=>
   cases ρ with
   | stop=> exact h.stopW hκ hg hk hgo
   | step f=>
     obtain⟨_,hst⟩:=hgo;obtain⟨g',w',es,H',h3,h4,h5⟩:=hst w (h.wt.vi.sat _) ⟨h.wt.cb,_,h.wt.sh⟩;refine stay g' w' es H' (q (base+κ)) (f w) h3 (h.wt.walk h.ne hact hN h4 fun κ' T' hκ' e=> ?_) (.walk hT h5) ?_
     · obtain rfl:κ'=κ:=by omega
       rw[hκ] at hκ';cases hκ'
       exact hT
     · unfold PI.meas;exact lt_rk (LtL.set h2 (.step f w))
   | phase f=>
     obtain⟨_,hp,_⟩:=hgo;exact hp.elim
end
end Go.RL
