/-
  Texts of the proofs over baudot/dial: KA KB KC C9 S9 H1 DV VWt2 VRun VRun2 VMain VTop R0 R1 StrUn DU App3.
-/
import Derived.Test.YtldmfjcgjdchcaaGreatDoorP06
import Derived.Test.YtldmfjcgjdchcaaGreatDoorTie
import Derived.Test.YtldmfjcgjdchcaaGreatDoorCards
import Derived.ProofKit
import Derived.LaidMore
import Derived.LaidHandle
import Derived.LaidSub
import Derived.Lay
import Derived.Laws.IdiomArrays
import Derived.Conc.LeavingOf
import Derived.SevenTiedAt
import Derived.Deep.Slices
namespace Go.Proofs.YtldmfjcgjdchcaaGreatDoor
open Go.RL Go.Proofs.Tryz
set_option maxRecDepth 10000
set_option maxHeartbeats 16000000
structure Pte(a b i j:Nat)(u:List Int):Prop where
 ai:a+1≤i
 ij:i≤j+1
 jb:j<b
 aj:a≤j
 lo:∀k,a<k→k<i→at0 u k≤at0 u a
 hi:∀k,j<k→k<b→at0 u a<at0 u k
theorem Pte.start {a b:Nat}{u:List Int}(h:a<b):Pte a b (a+1) (b-1) u:=⟨Nat.le_refl _,by omega,by omega,by omega,fun k h1 h2=> by omega,fun k h1 h2=> by omega⟩
theorem Pte.up {a b i j:Nat}{u:List Int}(h:Pte a b i j u)(hij:i≤j)(hle:¬at0 u a<at0 u i):Pte a b (i+1) j u:=
 ⟨by have:=h.ai;omega,by omega,h.jb,h.aj,fun k h1 h2=> by
   by_cases e:k=i
   · rw[e];omega
   · exact h.lo k h1 (by omega),h.hi⟩
theorem Pte.down {a b i j:Nat}{u:List Int}(h:Pte a b i j u)(hij:i≤j)(hlt:at0 u a<at0 u j):Pte a b i (j-1) u:=
 ⟨h.ai,by omega,by have:=h.jb;omega,by have:=h.ai;omega,h.lo,fun k h1 h2=> by
   by_cases e:k=j
   · rw[e];exact hlt
   · exact h.hi k (by omega) h2⟩
theorem Pte.swap {a b i j:Nat}{u:List Int}(h:Pte a b i j u)(hl:b≤u.length)(hij:i≤j)(h1:at0 u a<at0 u i)(h2:¬at0 u a<at0 u j):i<j∧Pte a b (i+1) (j-1) (swapL u i j)∧at0 (swapL u i j) a=at0 u a:=by
 have ha:=h.ai;have hb:=h.jb;have hne:i≠j:=by
   rintro rfl;omega
 have hs:=fun q=> swapL_at (l:=u) (p:=i) (q:=j) (by omega) (by omega) q;have h0:at0 (swapL u i j) a=at0 u a:=by rw[hs,if_neg (by omega),if_neg (by omega)]
 refine⟨by omega,⟨by omega,by omega,by omega,by omega,fun k h3 h4=> ?_,fun k h3 h4=> ?_⟩,h0⟩
 · rw[h0,hs,if_neg (by omega)];by_cases e:k=i
   · rw[if_pos e];omega
   · rw[if_neg e];exact h.lo k h3 (by omega)
 · rw[h0,hs];by_cases e:k=j
   · rw[if_pos e];exact h1
   · rw[if_neg e,if_neg (by omega)];exact h.hi k (by omega) h4
structure EqPart(a b c:Nat)(x:Int)(u:List Int):Prop where
 ac:a<c
 cb:c≤b
 lo:∀k,a≤k→k<c→at0 u k≤x
 hi:∀k,c≤k→k<b→x<at0 u k
theorem Pte.fin {a b i j:Nat}{u:List Int}(h:Pte a b i j u)(hij:j<i){x:Int}(hx:at0 u a=x):EqPart a b i x u:=by
 have h1:=h.ij;have h2:=h.ai;have h3:=h.jb;exact⟨by omega,by omega,fun k g1 g2=> by
   by_cases e:k=a
   · rw[e,hx];exact Int.le_refl _
   · rw[←hx];exact h.lo k (by omega) g2,fun k g1 g2=> by rw[←hx];exact h.hi k (by omega) g2⟩
section
variable(M:Md prog)(H:View)
theorem partEqS_c(dec:Int→List UInt8)(sb:Nat)(l:List Int)(jj:List Value)(n cap a b pv:Nat)(hn:n=l.length)(hE:Enc dec l)(hb:b≤n)(h1000:n≤100000000)(hp:a≤pv∧pv<b)(hS:H sb=some (true,.cells ⟨(strsL dec l)++jj⟩ 9 (0,0))):
   CallT M 263 #[.slice (some ⟨sb,0,none⟩) n cap,.int .i64 (a:Nat),.int .i64 (b:Nat),.int .i64 (pv:Nat)] H (SortSQ dec H sb jj (fun v m=> ∃s:Nat×List Int,v=.int .i64 (s.1:Nat)∧m=s.2∧(Turned a b l s.2∧EqPart a b s.1 (at0 l pv) s.2))):=by
 refine CallT.enter (vs:= [.slice (some ⟨sb,0,none⟩) n cap,.int .i64 (a:Nat),.int .i64 (b:Nat),.int .i64 (pv:Nat)]) func263 rfl ntmps263 (Nat.le_of_ble_eq_true rfl) (SymSt.pull hS) fun St c cs hK=> ?_;have hx0:at0 (swapL l a pv) a=at0 l pv:=by
   rw[swapL_at (by omega) (by omega)];by_cases e:a=pv
   · rw[if_pos e,e]
   · rw[if_neg e,if_pos rfl]
 have hu:Turned a b l (swapL l a pv):=Turned.swap (by omega) (by omega) (by omega) (by omega);have eb:((b:Nat):Int)-1=((b-1:Nat):Int):=by omega
 have ea:intBin .add .i64 (a:Nat) 1=some (.int .i64 ((a+1:Nat):Int)):=by rw[add_in (by omega) (by omega)];rfl
 have y1:=cellsS_ld (dec:=dec) (m:=l) (j:=jj) (k:=(a:Nat)) (p:=a) rfl (by omega);have y2:=cellsS_ld (dec:=dec) (m:=l) (j:=jj) (k:=(pv:Nat)) (p:=pv) rfl (by omega);have y3:=cellsS_st (dec:=dec) (m:=l) (j:=jj) (k:=(a:Nat)) (x:=at0 l (pv)) (p:=a) rfl (by omega);have y4:=cellsS_st (dec:=dec) (m:=(l).set (a) (at0 l (pv))) (j:=jj) (k:=(pv:Nat)) (x:=at0 l (a)) (p:=pv) rfl (by rw[List.length_set];omega);have y5:=cellsS_le (dec:=dec) (m:=l) (j:=jj) (k:=(a:Nat)) (p:=a) rfl (by omega);have y6:=cellsS_le (dec:=dec) (m:=(l).set (a) (at0 l (pv))) (j:=jj) (k:=(pv:Nat)) (p:=pv) rfl (by rw[List.length_set];omega);refine U5 ?_;refine Tc.dr [13,15] [0] mixed rfl ?_;refine .nn 0 ?_;refine .nn 1 ?_;refine .nw 2 ?_;refine .nw 3 ?_;refine .nn 4 ?_;refine .nn 5 ?_;refine .nn 6 ?_;refine .nn 7 ?_;refine .nw 8 ?_;refine .nw 9 ?_;refine .nw 10 ?_;refine .nn 11 ?_;refine .nn 12 ?_;refine .e 13 0 ?_;refine .nw 14 ?_;refine .e 15 0 ?_;refine .dn ?_;refine U9 ?_;rw[eb];refine U2 ?_;refine Tc.db (Tc.loopInv (σ:= { s:Nat×Nat×List Int//Pte a b s.1 s.2.1 s.2.2∧Turned a b l s.2.2∧at0 s.2.2 a=at0 l pv }) (fun s=> ([(0,.slice (some ⟨sb,0,none⟩) n cap),(1,.int .i64 (a:Nat)),(9,.int .i64 (s.1.1:Nat)),(10,.int .i64 (s.1.2.1:Nat))],[(sb,true,.cells ⟨(strsL dec s.1.2.2)++jj⟩ 9 (0,0))])) (fun s=> s.1.2.1+1-s.1.1) ?_
   ⟨(a+1,b-1,swapL l a pv),Pte.start (by omega),hu,hx0⟩)
 clear y1 y2 y3 y4 y5 y6 hx0 hu;rintro⟨⟨i,j,w⟩,g1,g2,g3⟩ ih0;simp only at g1 g2 g3;have hwl:=g2.len;have hEw:=hE.turned g2;have g1a:=g1.ai;have g1b:=g1.ij;have g1c:=g1.jb;show Tc M St _ _ _ _ [(0,.slice (some ⟨sb,0,none⟩) n cap),(1,.int .i64 (a:Nat)),(9,.int .i64 (i:Nat)),(10,.int .i64 (j:Nat))] [(sb,true,.cells ⟨(strsL dec w)++jj⟩ 9 (0,0))] _ _;have za:=cellsS_ld (dec:=dec) (m:=w) (j:=jj) (k:=(a:Nat)) (p:=a) rfl (by omega);refine U2 ?_;refine blockVia (fun R' L'=> ∃s,i≤s∧Pte a b s j w∧(s≤j→at0 w a<at0 w s)∧AllIn [(0,.slice (some ⟨sb,0,none⟩) n cap),(1,.int .i64 (a:Nat)),(9,.int .i64 (s:Nat)),(10,.int .i64 (j:Nat))] R'∧L'= [(sb,true,.cells ⟨(strsL dec w)++jj⟩ 9 (0,0))]) ?_ (fun fin=> ?_)
 · rintro R' _ ⟨i2,i2le,p1,x1,hRR,rfl⟩;refine Tc.dropB ?_ hRR (List.Sublist.refl _);have p1a:=p1.ai;have p1b:=p1.ij;have p1c:=p1.jb;refine U ?_;refine blockVia (fun R' L'=> ∃s,s≤j∧Pte a b i2 s w∧(i2≤s→¬at0 w a<at0 w s)∧AllIn [(0,.slice (some ⟨sb,0,none⟩) n cap),(1,.int .i64 (a:Nat)),(9,.int .i64 (i2:Nat)),(10,.int .i64 (s:Nat))] R'∧L'= [(sb,true,.cells ⟨(strsL dec w)++jj⟩ 9 (0,0))]) ?_ (fun fin=> ?_)
   · rintro R' _ ⟨j2,j2le,p2,x2,hRR,rfl⟩;refine Tc.dropB ?_ hRR (List.Sublist.refl _);have p2a:=p2.ai;have p2b:=p2.ij;have p2c:=p2.jb;have p2d:=p2.aj;by_cases d:j2<i2
     · refine U14 ?_;refine .rt hK func263 results263 [_] ?_;exact fun H' hs=> SortSQ.of (dec:=dec) hs (i:=0) rfl ⟨(i2,w),rfl,rfl,g2,p2.fin d g3⟩
     · obtain⟨w1,w2,w3⟩:=p2.swap (by omega) (by omega) (x1 (by omega)) (x2 (by omega));have e2:((j2:Nat):Int)-1=((j2-1:Nat):Int):=by omega
       have ei:intBin .add .i64 (i2:Nat) 1=some (.int .i64 ((i2+1:Nat):Int)):=by rw[add_in (by omega) (by omega)];rfl
       refine U10 ?_;have z1:=cellsS_ld (dec:=dec) (m:=w) (j:=jj) (k:=(i2:Nat)) (p:=i2) rfl (by omega);have z2:=cellsS_ld (dec:=dec) (m:=w) (j:=jj) (k:=(j2:Nat)) (p:=j2) rfl (by omega);have z3:=cellsS_st (dec:=dec) (m:=w) (j:=jj) (k:=(i2:Nat)) (x:=at0 w (j2)) (p:=i2) rfl (by omega);have z4:=cellsS_st (dec:=dec) (m:=(w).set (i2) (at0 w (j2))) (j:=jj) (k:=(j2:Nat)) (x:=at0 w (i2)) (p:=j2) rfl (by rw[List.length_set];omega);have z5:=cellsS_le (dec:=dec) (m:=w) (j:=jj) (k:=(i2:Nat)) (p:=i2) rfl (by omega);have z6:=cellsS_le (dec:=dec) (m:=(w).set (i2) (at0 w (j2))) (j:=jj) (k:=(j2:Nat)) (p:=j2) rfl (by rw[List.length_set];omega);refine Tc.dr [13,15] [0] mixed rfl ?_;refine .nn 0 ?_;refine .nn 1 ?_;refine .nw 2 ?_;refine .nw 3 ?_;refine .nn 4 ?_;refine .nn 5 ?_;refine .nn 6 ?_;refine .nn 7 ?_;refine .nw 8 ?_;refine .nw 9 ?_;refine .nw 10 ?_;refine .nn 11 ?_;refine .nn 12 ?_;refine .e 13 0 ?_;refine .nw 14 ?_;refine .e 15 0 ?_;refine .dn ?_;refine U11 ?_;rw[e2];refine U ?_;exact Tc.db (ih0 ⟨(i2+1,j2-1,swapL w i2 j2),w2,g2.trans (Turned.swap (by omega) (by omega) (by omega) (by omega)),w3.trans g3⟩ (by simp only;omega))
   · refine Tc.db (Tc.loopInv (σ:= { s:Nat//s≤j∧Pte a b i2 s w }) (fun s=> ([(0,.slice (some ⟨sb,0,none⟩) n cap),(1,.int .i64 (a:Nat)),(9,.int .i64 (i2:Nat)),(10,.int .i64 (s.1:Nat))],[(sb,true,.cells ⟨(strsL dec w)++jj⟩ 9 (0,0))])) (fun s=> s.1) ?_ ⟨j,Nat.le_refl _,p1⟩);rintro⟨s,q1,q2⟩ ih;have q3:=q2.ai;have q4:=q2.ij;have q5:=q2.jb;show Tc M St _ _ _ _ [(0,.slice (some ⟨sb,0,none⟩) n cap),(1,.int .i64 (a:Nat)),(9,.int .i64 (i2:Nat)),(10,.int .i64 (s:Nat))] [(sb,true,.cells ⟨(strsL dec w)++jj⟩ 9 (0,0))] _ _;by_cases c1:i2≤s
     · have zs:=cellsS_ld (dec:=dec) (m:=w) (j:=jj) (k:=(s:Nat)) (p:=s) rfl (by omega);have es:((s:Nat):Int)-1=((s-1:Nat):Int):=by omega
       by_cases c2:at0 w a<at0 w s
       · refine U2 ?_;refine Tc.dr [] [] mixed rfl ?_;refine .nn 0 ?_;refine .nn 1 ?_;refine .nn 2 ?_;refine .nn 3 ?_;refine .nn 4 ?_;refine .nn 5 ?_;refine .nn 6 ?_;refine .nn 7 ?_;refine .nn 8 ?_;refine .nn 9 ?_;refine .nn 10 ?_;refine .nn 11 ?_;refine .z 12 rfl (OpV.takeCall rfl rfl rfl rfl (fun H hs=> .h (lessS M H hEw (at0_mem (by omega)) (at0_mem (by omega)) true (decide_eq_true c2)))) ?_;refine .nn 13 ?_;refine .dn ?_;refine U8 ?_;rw[es];refine U ?_;exact Tc.db (ih ⟨s-1,by omega,q2.down c1 c2⟩ (by simp only;omega))
       · repeat (refine Tc.seq ?_)
         refine Tc.dr [] [] mixed rfl ?_;refine .nn 0 ?_;refine .nn 1 ?_;refine .nn 2 ?_;refine .nn 3 ?_;refine .nn 4 ?_;refine .nn 5 ?_;refine .nn 6 ?_;refine .nn 7 ?_;refine .nn 8 ?_;refine .nn 9 ?_;refine .nn 10 ?_;refine .nn 11 ?_;refine .z 12 rfl (OpV.takeCall rfl rfl rfl rfl (fun H hs=> .h (lessS M H hEw (at0_mem (by omega)) (at0_mem (by omega)) false (decide_eq_false c2)))) ?_;refine .nn 13 ?_;refine .dn ?_;refine U2 ?_;exact fin _ _ ⟨s,q1,q2,fun _=> c2,⟨rfl,rfl,rfl,rfl,trivial⟩,rfl⟩
     · repeat (refine Tc.seq ?_)
       refine Tc.dr [] [] mixed rfl ?_;refine .nn 0 ?_;refine .nn 1 ?_;refine .nn 2 ?_;refine .nn 3 ?_;refine .nw 4 ?_;refine .nw 5 ?_;refine .nw 6 ?_;refine .nw 7 ?_;refine .nw 8 ?_;refine .nw 9 ?_;refine .nw 10 ?_;refine .nw 11 ?_;refine .nw 12 ?_;refine .nn 13 ?_;refine .dn ?_;refine U2 ?_;exact fin _ _ ⟨s,q1,q2,fun h=> (c1 h).elim,⟨rfl,rfl,rfl,rfl,trivial⟩,rfl⟩
 · refine Tc.db (Tc.loopInv (σ:= { s:Nat//i≤s∧Pte a b s j w }) (fun s=> ([(0,.slice (some ⟨sb,0,none⟩) n cap),(1,.int .i64 (a:Nat)),(9,.int .i64 (s.1:Nat)),(10,.int .i64 (j:Nat))],[(sb,true,.cells ⟨(strsL dec w)++jj⟩ 9 (0,0))])) (fun s=> j+1-s.1) ?_ ⟨i,Nat.le_refl _,g1⟩);rintro⟨s,q1,q2⟩ ih;have q3:=q2.ai;have q4:=q2.ij;have q5:=q2.jb;show Tc M St _ _ _ _ [(0,.slice (some ⟨sb,0,none⟩) n cap),(1,.int .i64 (a:Nat)),(9,.int .i64 (s:Nat)),(10,.int .i64 (j:Nat))] [(sb,true,.cells ⟨(strsL dec w)++jj⟩ 9 (0,0))] _ _;by_cases c1:s≤j
   · have zs:=cellsS_ld (dec:=dec) (m:=w) (j:=jj) (k:=(s:Nat)) (p:=s) rfl (by omega);have es:intBin .add .i64 (s:Nat) 1=some (.int .i64 ((s+1:Nat):Int)):=by rw[add_in (by omega) (by omega)];rfl
     by_cases c2:at0 w a<at0 w s
     · repeat (refine Tc.seq ?_)
       refine Tc.dr [] [] mixed rfl ?_;refine .nn 0 ?_;refine .nn 1 ?_;refine .nn 2 ?_;refine .nn 3 ?_;refine .nn 4 ?_;refine .nn 5 ?_;refine .nn 6 ?_;refine .nn 7 ?_;refine .nn 8 ?_;refine .nn 9 ?_;refine .nn 10 ?_;refine .nn 11 ?_;refine .z 12 rfl (OpV.takeCall rfl rfl rfl rfl (fun H hs=> .h (lessS M H hEw (at0_mem (by omega)) (at0_mem (by omega)) true (decide_eq_true c2)))) ?_;refine .nn 13 ?_;refine .nn 14 ?_;refine .dn ?_;refine U2 ?_;exact fin _ _ ⟨s,q1,q2,fun _=> c2,⟨rfl,rfl,rfl,rfl,trivial⟩,rfl⟩
     · refine U2 ?_;refine Tc.dr [] [] mixed rfl ?_;refine .nn 0 ?_;refine .nn 1 ?_;refine .nn 2 ?_;refine .nn 3 ?_;refine .nn 4 ?_;refine .nn 5 ?_;refine .nn 6 ?_;refine .nn 7 ?_;refine .nn 8 ?_;refine .nn 9 ?_;refine .nn 10 ?_;refine .nn 11 ?_;refine .z 12 rfl (OpV.takeCall rfl rfl rfl rfl (fun H hs=> .h (lessS M H hEw (at0_mem (by omega)) (at0_mem (by omega)) false (decide_eq_false c2)))) ?_;refine .nn 13 ?_;refine .nn 14 ?_;refine .dn ?_;refine U9 ?_;exact Tc.db (ih ⟨s+1,by omega,q2.up c1 c2⟩ (by simp only;omega))
   · repeat (refine Tc.seq ?_)
     refine Tc.dr [] [] mixed rfl ?_;refine .nn 0 ?_;refine .nn 1 ?_;refine .nn 2 ?_;refine .nn 3 ?_;refine .nw 4 ?_;refine .nw 5 ?_;refine .nw 6 ?_;refine .nw 7 ?_;refine .nw 8 ?_;refine .nw 9 ?_;refine .nw 10 ?_;refine .nw 11 ?_;refine .nw 12 ?_;refine .nw 13 ?_;refine .nn 14 ?_;refine .dn ?_;refine U2 ?_;exact fin _ _ ⟨s,q1,q2,fun h=> (c1 h).elim,⟨rfl,rfl,rfl,rfl,trivial⟩,rfl⟩
end
def Glue(l:List Int)(a b a' b':Nat)(u:List Int):Prop:=∀m,Turned a' b' u m→Srt a' b' m→Turned a b l m∧Srt a b m
theorem Glue.turn {l u w:List Int}{a b a' b':Nat}(h:Glue l a b a' b' u)(k:Turned a' b' u w):Glue l a b a' b' w:=fun m h1 h2=> h m (k.trans h1) h2
theorem Ahead.left {a b c:Nat}{u:List Int}(h:Ahead a b u)(k:c≤b):Ahead a c u:=by
 rcases h with h|h
 · exact .inl h
 · exact .inr fun i h1 h2=> h i h1 (by omega)
theorem Ahead.keep {a c b:Nat}{u w:List Int}(h:Ahead a c u)(k:Turned (c+1) b u w):Ahead a c w:=by
 rcases h with h|h
 · exact .inl h
 · refine .inr fun i h1 h2=> ?_;rw[k.out (a-1) (.inl (by omega)),k.out i (.inl (by omega))];exact h i h1 h2
theorem Glue.right {l u x:List Int}{a b a' b' c:Nat}(h:Glue l a b a' b' u)(k:Part a' b' c u)(hl:b'≤u.length)(h1:Turned a' c u x)(s1:Srt a' c x):Glue l a b (c+1) b' x:=fun m h2 s2=> by
 obtain⟨g1,g2⟩:=k.sorted hl h1 s1 h2 s2;exact h m g1 g2
theorem Glue.left {l u x:List Int}{a b a' b' c:Nat}(h:Glue l a b a' b' u)(k:Part a' b' c u)(hl:b'≤u.length)(h1:Turned (c+1) b' u x)(s1:Srt (c+1) b' x):Glue l a b a' c x:=fun m h2 s2=> by
 obtain⟨g1,g2⟩:=k.sorted2 hl h1 s1 h2 s2;exact h m g1 g2
theorem Part.ahead {a b c:Nat}{u x:List Int}(k:Part a b c u)(h1:Turned a c u x):Ahead (c+1) b x:=.inr fun i g1 g2=> by
 have e:c+1-1=c:=by omega
 rw[e];have h2:=k.hi i (by omega) g2;rw[←h1.out c (.inr (Nat.le_refl _)),←h1.out i (.inr (by omega))] at h2;exact h2
theorem EqPart.ahead {a b c:Nat}{x:Int}{w:List Int}(k:EqPart a b c x w):Ahead c b w:=.inr fun i g1 g2=> by
 have h1:=k.ac;have h2:=k.lo (c-1) (by omega) (by omega);have h3:=k.hi i g1 g2;omega
theorem Glue.eq {l u w:List Int}{a b a' b' c:Nat}{x:Int}(h:Glue l a b a' b' u)(k:EqPart a' b' c x w)(ht:Turned a' b' u w)(hge:∀i,a'≤i→i<b'→x≤at0 w i)(hl:b'≤w.length):Glue l a b c b' w:=fun m h1 s1=> by
 have c1:=k.ac;have c2:=k.cb;refine h m (ht.trans (h1.wide (by omega) (Nat.le_refl _))) fun p q g1 g2 g3=> ?_;have hlo:∀i,a'≤i→i<c→at0 m i=x:=fun i e1 e2=> by
   rw[h1.out i (.inl e2)];have e3:=k.lo i e1 e2;have e4:=hge i e1 (by omega);omega
 have hhi:∀i,c≤i→i<b'→x<at0 m i:=h1.all hl (P:=fun z=> x<z) k.hi;by_cases d1:q<c
 · rw[hlo p g1 (by omega),hlo q (by omega) d1];exact Int.le_refl _
 · by_cases d2:p<c
   · rw[hlo p g1 d2];have:=hhi q (by omega) g3;omega
   · exact s1 p q (by omega) g2 g3
theorem Or.sortsSF {dec:Int→List UInt8}{M:Md prog}{n:Nat}{H₀:View}{R:Rg}{L:Bl}{o:Oper}{K:Rg→Bl→Prop}{cl:Go.Call}{x:Operand}{fv:Value}{az:List Value}{d:Nat}{σ:Type}(i:Nat){sb:Nat}{l:List Int}{j:List Value}(val:σ→Value)(mm:σ→List Int)(p:σ→Prop)
   (hop:o.op=.call cl) (hcl:cl.callee=.value x) (hx:evR R x=some fv) (has:evRs R cl.args.toList=some az) (hd:o.dst=some d) (hn:d<n) (hi:L[i]? =some (sb,true,.cells ⟨(strsL dec l)++j⟩ 9 (0,0)))
   (hc:∀H,SymSt H₀ L H→FnT M fv az H (SortSQ dec H sb j fun v m=> ∃s,v=val s∧m=mm s∧p s)) (hk:∀s,p s→K ((d,val s)::R) (L.set i (sb,true,.cells ⟨(strsL dec (mm s))++j⟩ 9 (0,0)))):Or M n H₀ R L o K:=
 Or.sortsS i (fun v m=> ∃s,v=val s∧m=mm s∧p s) hop hcl hx has hd hn hi hc fun v m h=> by
   obtain⟨s,rfl,rfl,h3⟩:=h;exact hk s h3
section
variable(M:Md prog)
theorem pdqG_c (dec:Int→List UInt8)(sb:Nat)(jj:List Value)(n cap:Nat)(h40:n≤100000000):∀(d:Nat) (H:View) (l:List Int) (a b lim:Nat),b-a<d→n=l.length→a≤b→b≤n→lim≤100→Enc dec l→Ahead a b l→H sb=some (true,.cells ⟨(strsL dec l)++jj⟩ 9 (0,0))→
   CallT M 196 #[.slice (some ⟨sb,0,none⟩) n cap,.int .i64 (a:Nat),.int .i64 (b:Nat),.int .i64 (lim:Nat)] H (SortSQ dec H sb jj (fun v m=> v=.tuple ⟨[]⟩∧Turned a b l m∧Srt a b m)):=by
 intro d;induction d with
 | zero=> intro H l a b lim hd;omega
 | succ d ihd=>
 intro H l a b lim hd hn hab hb hlim hE hah hS;refine CallT.enter (vs:= [.slice (some ⟨sb,0,none⟩) n cap,.int .i64 (a:Nat),.int .i64 (b:Nat),.int .i64 (lim:Nat)]) func196 rfl ntmps196 (Nat.le_of_ble_eq_true rfl) (SymSt.pull hS) fun St c cs hK=> ?_;refine U9 ?_;refine Tc.db (Tc.loopInv (σ:= { s:Nat×Nat×Nat×Bool×Bool×List Int//a≤s.1∧s.1≤s.2.1∧s.2.1≤b∧s.2.2.1≤lim∧Turned a b l s.2.2.2.2.2∧Glue l a b s.1 s.2.1 s.2.2.2.2.2∧Ahead s.1 s.2.1 s.2.2.2.2.2 }) (fun s=> ([(0,.slice (some ⟨sb,0,none⟩) n cap),(1,.int .i64 (s.1.1:Nat)),(2,.int .i64 (s.1.2.1:Nat)),(3,.int .i64 (s.1.2.2.1:Nat)),(8,.bool s.1.2.2.2.1),(9,.bool s.1.2.2.2.2.1)],[(sb,true,.cells ⟨(strsL dec s.1.2.2.2.2.2)++jj⟩ 9 (0,0))])) (fun s=> s.1.2.1-s.1.1) ?_
   ⟨(a,b,lim,true,true,l),Nat.le_refl _,hab,Nat.le_refl _,Nat.le_refl _,Turned.refl ..,fun m h1 h2=> ⟨h1,h2⟩,hah⟩)
 rintro⟨⟨a',b',lm,wb,wp,u⟩,g1,g2,g3,g4,g5,g6,g7⟩ ih;simp only at g1 g2 g3 g4 g5 g6 g7;have hul:=g5.len;have hEu:=hE.turned g5;obtain⟨m,hm⟩:∃m,m=b'-a':=⟨_,rfl⟩
 have e0:((b':Nat):Int)-((a':Nat):Int)=((m:Nat):Int):=by omega
 show Tc M St _ _ _ _ [(0,.slice (some ⟨sb,0,none⟩) n cap),(1,.int .i64 (a':Nat)),(2,.int .i64 (b':Nat)),(3,.int .i64 (lm:Nat)),(8,.bool wb),(9,.bool wp)] [(sb,true,.cells ⟨(strsL dec u)++jj⟩ 9 (0,0))] _ _;refine U8 ?_;rw[e0];refine U2 ?_;by_cases c1:m≤12
 · refine U10 ?_;refine .e (Or.sortsS (dec:=dec) (l:=u) 0 (fun v m=> v=.tuple ⟨[]⟩∧Turned a' b' u m∧Srt a' b' m) rfl rfl rfl rfl rfl (by decide) rfl (fun H hs=> .h (insertionS_c M H dec sb u jj n cap a' b' (by omega) hEu (by omega) (by omega) (by omega) (hs.get (i:=0) rfl))) (fun v w ⟨_,wt,ws⟩=> ?_));refine U ?_;refine .rt hK func196 results196 [] ?_;exact fun H' hs=> SortSQ.of (dec:=dec) hs (i:=0) rfl ⟨rfl,g6 w wt ws⟩
 · refine U8 ?_;by_cases c2:lm=0
   · refine U10 ?_;refine .e (Or.sortsS (dec:=dec) (l:=u) 0 (fun v m=> v=.tuple ⟨[]⟩∧Turned a' b' u m∧Srt a' b' m) rfl rfl rfl rfl rfl (by decide) rfl (fun H hs=> .h (heapSortS_c M H dec sb u jj n cap a' b' (by omega) hEu (by omega) (by omega) (by omega) (hs.get (i:=0) rfl))) (fun v w ⟨_,wt,ws⟩=> ?_));refine U ?_;refine .rt hK func196 results196 [] ?_;exact fun H' hs=> SortSQ.of (dec:=dec) hs (i:=0) rfl ⟨rfl,g6 w wt ws⟩
   · refine U7 ?_;refine Tc.via (fun R' L'=> ∃(lm1:Nat) (x:List Int),lm1≤lm∧Turned a' b' u x∧AllIn [(0,.slice (some ⟨sb,0,none⟩) n cap),(1,.int .i64 (a':Nat)),(2,.int .i64 (b':Nat)),(3,.int .i64 (lm1:Nat)),(8,.bool wb),(9,.bool wp),(10,.int .i64 (m:Nat))] R'∧L'= [(sb,true,.cells ⟨(strsL dec x)++jj⟩ 9 (0,0))]) ?_ (fun fin=> ?_)
     · rintro R' _ ⟨lm1,x,o1,o2,hRR,rfl⟩;refine Tc.dropB ?_ hRR (List.Sublist.refl _);have hxl:=o2.len;refine U5 ?_;refine .e (Or.callNew pivV (fun _=> []) (fun s:Nat×Nat=> a'≤s.1∧s.1<b'∧s.2≤2) rfl rfl rfl rfl rfl (by decide) (fun _=> by simp) (fun H hs=> .h (choosePivotS_c M H dec sb true x jj n cap a' b' (by omega) (hEu.turned o2) h40 (by omega) (by omega) (hs.get (i:=0) rfl))) (fun⟨p,h⟩ ⟨v1,v2,v3⟩=> ?_));refine U6 ?_;simp only at v1 v2 v3;refine U ?_;refine Tc.via (fun R' L'=> ∃(p:Nat) (y:List Int),a'≤p∧p<b'∧Turned a' b' x y∧(∃h:Nat,AllIn [(0,.slice (some ⟨sb,0,none⟩) n cap),(1,.int .i64 (a':Nat)),(2,.int .i64 (b':Nat)),(3,.int .i64 (lm1:Nat)),(8,.bool wb),(9,.bool wp),(10,.int .i64 (m:Nat)),(11,.int .i64 (p:Nat)),(12,.int .i64 (h:Nat))] R')∧L'= [(sb,true,.cells ⟨(strsL dec y)++jj⟩ 9 (0,0))]) ?_ (fun fin=> ?_)
       · clear v1 v2 v3;rintro R' _ ⟨p,y,v1,v2,o3,⟨h,hRR⟩,rfl⟩;refine Tc.dropB ?_ hRR (List.Sublist.refl _);have hyl:=o3.len;refine U ?_;refine Tc.via (fun R' L'=> ∃y':List Int,Turned a' b' y y'∧AllIn [(0,.slice (some ⟨sb,0,none⟩) n cap),(1,.int .i64 (a':Nat)),(2,.int .i64 (b':Nat)),(3,.int .i64 (lm1:Nat)),(8,.bool wb),(9,.bool wp),(10,.int .i64 (m:Nat)),(11,.int .i64 (p:Nat))] R'∧L'= [(sb,true,.cells ⟨(strsL dec y')++jj⟩ 9 (0,0))]) ?_ (fun fin=> ?_)
         · rintro R' _ ⟨y,o4,hRR,rfl⟩;refine Tc.dropB ?_ hRR (List.Sublist.refl _);clear hRR;replace o3:=o3.trans o4;have hyl:=o3.len;have hEy:=hEu.turned (o2.trans o3);refine U ?_;have g5y:=(g5.trans ((o2.trans o3).wide g1 g3))
           have gy:Glue l a b a' b' y:=g6.turn (o2.trans o3);have ay:Ahead a' b' y:=g7.turn (o2.trans o3) (by omega);refine Tc.via (fun R' L'=> AllIn [(0,.slice (some ⟨sb,0,none⟩) n cap),(1,.int .i64 (a':Nat)),(2,.int .i64 (b':Nat)),(3,.int .i64 (lm1:Nat)),(8,.bool wb),(9,.bool wp),(10,.int .i64 (m:Nat)),(11,.int .i64 (p:Nat))] R'∧L'= [(sb,true,.cells ⟨(strsL dec y)++jj⟩ 9 (0,0))]) ?_ (fun fin=> ?_)
           · rintro R' _ ⟨hRR,rfl⟩;refine Tc.dropB ?_ hRR (List.Sublist.refl _);clear hRR;refine U6 ?_;refine .e (Or.sortsSF (dec:=dec) (l:=y) 0 (fun s:Nat×Bool×List Int=> .tuple ⟨[.int .i64 (s.1:Nat),.bool s.2.1]⟩) (fun s=> s.2.2) (fun s=> Turned a' b' y s.2.2∧Part a' b' s.1 s.2.2) rfl rfl rfl rfl rfl (by decide) rfl (fun H hs=> .h (partitionS_c M H dec sb y jj n cap a' b' p (by omega) hEy (by omega) (by omega) (by omega) (hs.get (i:=0) rfl))) (fun⟨mid,al,w⟩ ⟨k1,k2⟩=> ?_));refine U6 ?_;simp only at k1 k2;have k3:=k2.aj;have k4:=k2.jb;have hwl:=k1.len;have hEw:=hEy.turned k1;have gw:Glue l a b a' b' w:=gy.turn k1;have aw:Ahead a' b' w:=ay.turn k1 (by omega);have e1:((mid:Nat):Int)-((a':Nat):Int)=((mid-a':Nat):Int):=by omega
             have e2:((b':Nat):Int)-((mid:Nat):Int)=((b'-mid:Nat):Int):=by omega
             have hq:intBin .quo .i64 ((m:Nat):Int) 8=some (.int .i64 ((m/8:Nat):Int)):=by
               rw[quo_in (by omega) (by omega) (by omega)]
               congr 2
             have hgt:∀x y:Nat,intBin .geq .i64 ((x:Nat):Int) ((y:Nat):Int)=some (.bool (decide (y≤x))):=fun x y=> by
               by_cases c:y≤x
               · rw[decide_eq_true c];exact geq_t (by omega)
               · rw[decide_eq_false c];exact geq_f (by omega)
             have hg1:=hgt (mid-a') (m/8);have hg2:=hgt (b'-mid) (m/8);refine U16 ?_;rw[e1,e2];refine U7 ?_;by_cases c5:mid-a'<b'-mid
             · refine U10 ?_;refine .i ?_ (z:=hg1);refine U8 ?_;refine .e (Or.sortsS (dec:=dec) (l:=w) 0 (fun v m=> v=.tuple ⟨[]⟩∧Turned a' mid w m∧Srt a' mid m) rfl rfl rfl rfl rfl (by decide) rfl (fun H hs=> .h (ihd H w a' mid lm1 (by omega) (by omega) (by omega) (by omega) (by omega) hEw (aw.left (by omega)) (hs.get (i:=0) rfl))) (fun v x ⟨_,xt,xs⟩=> ?_));refine U7 ?_;have hxn:=xt.len;have r1:Turned a b l x:=g5y.trans ((k1.trans (xt.wide (by omega) (by omega))).wide (by omega) (by omega));have r2:Glue l a b (mid+1) b' x:=gw.right k2 (by omega) xt xs;have r3:Ahead (mid+1) b' x:=k2.ahead xt;have r4:lm1≤lim:=by omega
               have r5:a≤mid+1:=by omega
               have r6:mid+1≤b':=by omega
               exact Tc.db (ih ⟨(mid+1,b',lm1,decide (m/8≤mid-a'),al,x),r5,r6,g3,r4,r1,r2,r3⟩ (by simp only;omega))
             · refine U10 ?_;refine .i ?_ (z:=hg2);refine U9 ?_;refine .e (Or.sortsS (dec:=dec) (l:=w) 0 (fun v m=> v=.tuple ⟨[]⟩∧Turned (mid+1) b' w m∧Srt (mid+1) b' m) rfl rfl rfl rfl rfl (by decide) rfl (fun H hs=> .h (ihd H w (mid+1) b' lm1 (by omega) (by omega) (by omega) (by omega) (by omega) hEw (k2.ahead (Turned.refl a' mid w)) (hs.get (i:=0) rfl))) (fun v x ⟨_,xt,xs⟩=> ?_));refine U6 ?_;have r1:Turned a b l x:=g5y.trans ((k1.trans (xt.wide (by omega) (by omega))).wide (by omega) (by omega));have r2:Glue l a b a' mid x:=gw.left k2 (by omega) xt xs;have r3:Ahead a' mid x:=(aw.left (by omega)).keep xt;have r4:lm1≤lim:=by omega
               have r5:a'≤mid:=by omega
               have r6:mid≤b:=by omega
               exact Tc.db (ih ⟨(a',mid,lm1,decide (m/8≤b'-mid),al,x),g1,r5,r6,r4,r1,r2,r3⟩ (by simp only;omega))
           · by_cases c3:a'=0
             · subst c3;refine U ?_;refine Tc.dr [] [] mixed rfl ?_;refine .nn 0 ?_;refine .nn 1 ?_;refine .nn 2 ?_;refine .nw 3 ?_;refine .nw 4 ?_;refine .nw 5 ?_;refine .nw 6 ?_;refine .nw 7 ?_;refine .nw 8 ?_;refine .nw 9 ?_;refine .nw 10 ?_;refine .nw 11 ?_;refine .nw 12 ?_;refine .nw 13 ?_;refine .nn 14 ?_;refine .dn ?_;refine U2 ?_;exact Tc.db (fin [(0,.slice (some ⟨sb,0,none⟩) n cap),(1,.int .i64 (0:Nat)),(2,.int .i64 (b':Nat)),(3,.int .i64 (lm1:Nat)),(8,.bool wb),(9,.bool wp),(10,.int .i64 (m:Nat)),(11,.int .i64 (p:Nat))] [(sb,true,.cells ⟨(strsL dec y)++jj⟩ 9 (0,0))] ⟨⟨rfl,rfl,rfl,rfl,rfl,rfl,rfl,rfl,trivial⟩,rfl⟩)
             · have ea:((a':Nat):Int)-1=((a'-1:Nat):Int):=by omega
               have y1:=cellsS_ld (dec:=dec) (m:=y) (j:=jj) (k:=((a':Nat):Int)-1) (p:=a'-1) (by omega) (by omega);have y2:=cellsS_ld (dec:=dec) (m:=y) (j:=jj) (k:=(p:Nat)) (p:=p) rfl (by omega);by_cases hlt:at0 y (a'-1)<at0 y p
               · refine U ?_;refine Tc.dr [] [] mixed rfl ?_;refine .nn 0 ?_;refine .nn 1 ?_;refine .nn 2 ?_;refine .nn 3 ?_;refine .nn 4 ?_;refine .nn 5 ?_;refine .nn 6 ?_;refine .nn 7 ?_;refine .nn 8 ?_;refine .nn 9 ?_;refine .nn 10 ?_;refine .nn 11 ?_;refine .z 12 rfl (OpV.takeCall rfl rfl rfl rfl (fun H hs=> .h (lessS M H hEy (at0_mem (by omega)) (at0_mem (by omega)) true (decide_eq_true hlt)))) ?_;refine .nn 13 ?_;refine .nn 14 ?_;refine .dn ?_;refine U2 ?_;exact Tc.db (fin [(0,.slice (some ⟨sb,0,none⟩) n cap),(1,.int .i64 (a':Nat)),(2,.int .i64 (b':Nat)),(3,.int .i64 (lm1:Nat)),(8,.bool wb),(9,.bool wp),(10,.int .i64 (m:Nat)),(11,.int .i64 (p:Nat))] [(sb,true,.cells ⟨(strsL dec y)++jj⟩ 9 (0,0))] ⟨⟨rfl,rfl,rfl,rfl,rfl,rfl,rfl,rfl,trivial⟩,rfl⟩)
               · have hge:∀i,a'≤i→i<b'→at0 y p≤at0 y i:=fun i q1 q2=> by
                   rcases ay with h0|h0
                   · exact absurd h0 c3
                   · have:=h0 i q1 q2;omega
                 refine U ?_;refine Tc.dr [] [] mixed rfl ?_;refine .nn 0 ?_;refine .nn 1 ?_;refine .nn 2 ?_;refine .nn 3 ?_;refine .nn 4 ?_;refine .nn 5 ?_;refine .nn 6 ?_;refine .nn 7 ?_;refine .nn 8 ?_;refine .nn 9 ?_;refine .nn 10 ?_;refine .nn 11 ?_;refine .z 12 rfl (OpV.takeCall rfl rfl rfl rfl (fun H hs=> .h (lessS M H hEy (at0_mem (by omega)) (at0_mem (by omega)) false (decide_eq_false hlt)))) ?_;refine .nn 13 ?_;refine .nn 14 ?_;refine .dn ?_;refine U2 ?_;clear fin;refine U5 ?_;refine .e (Or.sortsSF (dec:=dec) (l:=y) 0 (fun s:Nat×List Int=> .int .i64 (s.1:Nat)) (fun s=> s.2) (fun s=> Turned a' b' y s.2∧EqPart a' b' s.1 (at0 y p) s.2) rfl rfl rfl rfl rfl (by decide) rfl (fun H hs=> .h (partEqS_c M H dec sb y jj n cap a' b' p (by omega) hEy (by omega) h40 (by omega) (hs.get (i:=0) rfl))) (fun⟨mid,w⟩ ⟨k1,k2⟩=> ?_));refine U2 ?_;simp only at k1 k2;have k3:=k2.ac;have k4:=k2.cb;have hwl:=k1.len;refine U6 ?_;have r1:Turned a b l w:=g5y.trans (k1.wide (by omega) (by omega));have r2:Glue l a b mid b' w:=gy.eq k2 k1 (k1.all (by omega) (P:=fun z=> at0 y p≤z) hge) (by omega);have r3:Ahead mid b' w:=k2.ahead;have r4:lm1≤lim:=by omega
                 have r5:a≤mid:=by omega
                 exact Tc.db (ih ⟨(mid,b',lm1,wb,wp,w),r5,k4,g3,r4,r1,r2,r3⟩ (by simp only;omega))
         · refine U ?_;by_cases c4:wb=true∧wp=true∧h=1
           · obtain⟨rfl,rfl,rfl⟩:=c4;refine U16 ?_;refine .e (Or.sortsSF (dec:=dec) (l:=y) 0 (fun s:Bool×List Int=> .bool s.1) (fun s=> s.2) (fun s=> Turned a' b' y s.2∧(s.1=true→Srt a' b' s.2)) rfl rfl rfl rfl rfl (by decide) rfl (fun H hs=> .h (CallT.mono (partialS_c M H dec sb y jj n cap a' b' (by omega) (hEu.turned (o2.trans o3)) (by omega) h40 (by omega) (g7.turn (o2.trans o3) (by omega)) (hs.get (i:=0) rfl)) (fun v H' ⟨q1,m',⟨t',q2,q3,q4⟩,q5⟩=> ⟨q1,m',⟨(t',m'),q2,rfl,q3,q4⟩,q5⟩))) (fun⟨t,y2⟩ ⟨ht,hs2⟩=> ?_));refine U ?_;simp only at ht hs2;cases t
             · refine U2 ?_;exact Tc.db (fin [(0,.slice (some ⟨sb,0,none⟩) n cap),(1,.int .i64 (a':Nat)),(2,.int .i64 (b':Nat)),(3,.int .i64 (lm1:Nat)),(8,.bool true),(9,.bool true),(10,.int .i64 (m:Nat)),(11,.int .i64 (p:Nat))] [(sb,true,.cells ⟨(strsL dec y2)++jj⟩ 9 (0,0))] ⟨y2,ht,⟨rfl,rfl,rfl,rfl,rfl,rfl,rfl,rfl,trivial⟩,rfl⟩)
             · have hall:=(g6.turn (o2.trans o3)) y2 ht (hs2 rfl);refine U ?_;refine .rt hK func196 results196 [] ?_;exact fun H' hs=> SortSQ.of (dec:=dec) hs (i:=0) rfl ⟨rfl,hall⟩
           · have c5:wb=true→wp=true→h≠1:=fun e1 e2 e3=> c4 ⟨e1,e2,e3⟩;cases wb
             · cases wp
               · refine U12 ?_;exact Tc.db (fin [(0,.slice (some ⟨sb,0,none⟩) n cap),(1,.int .i64 (a':Nat)),(2,.int .i64 (b':Nat)),(3,.int .i64 (lm1:Nat)),(8,.bool false),(9,.bool false),(10,.int .i64 (m:Nat)),(11,.int .i64 (p:Nat))] [(sb,true,.cells ⟨(strsL dec y)++jj⟩ 9 (0,0))] ⟨y,Turned.refl ..,⟨rfl,rfl,rfl,rfl,rfl,rfl,rfl,rfl,trivial⟩,rfl⟩)
               · refine U12 ?_;exact Tc.db (fin [(0,.slice (some ⟨sb,0,none⟩) n cap),(1,.int .i64 (a':Nat)),(2,.int .i64 (b':Nat)),(3,.int .i64 (lm1:Nat)),(8,.bool false),(9,.bool true),(10,.int .i64 (m:Nat)),(11,.int .i64 (p:Nat))] [(sb,true,.cells ⟨(strsL dec y)++jj⟩ 9 (0,0))] ⟨y,Turned.refl ..,⟨rfl,rfl,rfl,rfl,rfl,rfl,rfl,rfl,trivial⟩,rfl⟩)
             · cases wp
               · refine U12 ?_;exact Tc.db (fin [(0,.slice (some ⟨sb,0,none⟩) n cap),(1,.int .i64 (a':Nat)),(2,.int .i64 (b':Nat)),(3,.int .i64 (lm1:Nat)),(8,.bool true),(9,.bool false),(10,.int .i64 (m:Nat)),(11,.int .i64 (p:Nat))] [(sb,true,.cells ⟨(strsL dec y)++jj⟩ 9 (0,0))] ⟨y,Turned.refl ..,⟨rfl,rfl,rfl,rfl,rfl,rfl,rfl,rfl,trivial⟩,rfl⟩)
               · have c6:=c5 rfl rfl;refine U12 ?_;exact Tc.db (fin [(0,.slice (some ⟨sb,0,none⟩) n cap),(1,.int .i64 (a':Nat)),(2,.int .i64 (b':Nat)),(3,.int .i64 (lm1:Nat)),(8,.bool true),(9,.bool true),(10,.int .i64 (m:Nat)),(11,.int .i64 (p:Nat))] [(sb,true,.cells ⟨(strsL dec y)++jj⟩ 9 (0,0))] ⟨y,Turned.refl ..,⟨rfl,rfl,rfl,rfl,rfl,rfl,rfl,rfl,trivial⟩,rfl⟩)
       · refine U ?_;by_cases c4:h=2
         · have e1:((b':Nat):Int)-1-(((p:Nat):Int)-((a':Nat):Int))=((b'-1-(p-a'):Nat):Int):=by omega
           refine U10 ?_;refine .e (Or.sortsS (dec:=dec) (l:=x) 0 (fun v m=> v=.tuple ⟨[]⟩∧Turned a' b' x m) rfl rfl rfl rfl rfl (by decide) rfl (fun H hs=> .h (reverseS_c M H dec sb x jj n cap a' b' (by omega) (by omega) (by omega) (by omega) (hs.get (i:=0) rfl))) (fun v y ⟨_,yt⟩=> ?_));refine U11 ?_;rw[e1];refine U3 ?_;exact Tc.db (fin [(0,.slice (some ⟨sb,0,none⟩) n cap),(1,.int .i64 (a':Nat)),(2,.int .i64 (b':Nat)),(3,.int .i64 (lm1:Nat)),(8,.bool wb),(9,.bool wp),(10,.int .i64 (m:Nat)),(11,.int .i64 (b'-1-(p-a'):Nat)),(12,.int .i64 (1:Nat))] [(sb,true,.cells ⟨(strsL dec y)++jj⟩ 9 (0,0))] ⟨b'-1-(p-a'),y,by omega,by omega,yt,⟨1,rfl,rfl,rfl,rfl,rfl,rfl,rfl,rfl,rfl,trivial⟩,rfl⟩)
         · refine U6 ?_;exact Tc.db (fin [(0,.slice (some ⟨sb,0,none⟩) n cap),(1,.int .i64 (a':Nat)),(2,.int .i64 (b':Nat)),(3,.int .i64 (lm1:Nat)),(8,.bool wb),(9,.bool wp),(10,.int .i64 (m:Nat)),(11,.int .i64 (p:Nat)),(12,.int .i64 (h:Nat))] [(sb,true,.cells ⟨(strsL dec x)++jj⟩ 9 (0,0))] ⟨p,x,by omega,by omega,Turned.refl ..,⟨h,rfl,rfl,rfl,rfl,rfl,rfl,rfl,rfl,rfl,trivial⟩,rfl⟩)
     · refine U ?_;cases wb
       · have e1:((lm:Nat):Int)-1=((lm-1:Nat):Int):=by omega
         refine U10 ?_;refine .e (Or.sortsS (dec:=dec) (l:=u) 0 (fun v m=> v=.tuple ⟨[]⟩∧Turned a' b' u m) rfl rfl rfl rfl rfl (by decide) rfl (fun H hs=> .h (breakS_c M H dec sb u jj n cap a' b' (by omega) (by omega) h40 (by omega) (hs.get (i:=0) rfl))) (fun v x ⟨_,xt⟩=> ?_));refine U6 ?_;rw[e1];exact Tc.db (fin [(0,.slice (some ⟨sb,0,none⟩) n cap),(1,.int .i64 (a':Nat)),(2,.int .i64 (b':Nat)),(3,.int .i64 (lm-1:Nat)),(8,.bool false),(9,.bool wp),(10,.int .i64 (m:Nat))] [(sb,true,.cells ⟨(strsL dec x)++jj⟩ 9 (0,0))] ⟨lm-1,x,by omega,xt,⟨rfl,rfl,rfl,rfl,rfl,rfl,rfl,trivial⟩,rfl⟩)
       · refine U6 ?_;exact Tc.db (fin [(0,.slice (some ⟨sb,0,none⟩) n cap),(1,.int .i64 (a':Nat)),(2,.int .i64 (b':Nat)),(3,.int .i64 (lm:Nat)),(8,.bool true),(9,.bool wp),(10,.int .i64 (m:Nat))] [(sb,true,.cells ⟨(strsL dec u)++jj⟩ 9 (0,0))] ⟨lm,u,Nat.le_refl _,Turned.refl ..,⟨rfl,rfl,rfl,rfl,rfl,rfl,rfl,trivial⟩,rfl⟩)
end
set_option maxHeartbeats 8000000
section
variable(M:Md prog)(H:View)
theorem SortG_c(dec:Int→List UInt8)(sb:Nat)(l:List Int)(jj:List Value)(n cap:Nat)(hn:n=l.length)(hE:Enc dec l)(h12:n≤100000000)(hS:H sb=some (true,.cells ⟨(strsL dec l)++jj⟩ 9 (0,0))):
   CallT M 120 #[.slice (some ⟨sb,0,none⟩) n cap] H (SortSQ dec H sb jj (fun v m=> v=.tuple ⟨[]⟩∧Turned 0 n l m∧Srt 0 n m)):=by
 have hw:=u64_in (x:=n) (by omega);have hb:bl n≤32:=by
   by_cases h0:0<n
   · have h1:=bl_spec h0;have h3:2 ^ bl n<2 ^ 32:=by omega
     have:=(Nat.pow_lt_pow_iff_right (a:=2) (by decide)).1 h3;omega
   · unfold bl;rw[if_pos (by omega)];omega
 refine CallT.enter (vs:= [.slice (some ⟨sb,0,none⟩) n cap]) func120 rfl ntmps120 (Nat.le_of_ble_eq_true rfl) (SymSt.pull hS) fun St c cs hK=> ?_;refine U11 ?_;refine .c rfl rfl rfl rfl (fun H hs=> .h (LenG_c M H n (by omega))) ?_;refine .e (Or.sortsS (dec:=dec) (l:=l) 0 (fun v m=> v=.tuple ⟨[]⟩∧Turned 0 n l m∧Srt 0 n m) rfl rfl rfl rfl rfl (by decide) rfl (fun H hs=> .h (pdqG_c M dec sb jj n cap h12 (n+1) H l 0 n (bl n) (by omega) hn (by omega) (Nat.le_refl _) (by omega) hE (.inl rfl) (hs.get (i:=0) rfl))) (fun v m hm=> ?_));refine U ?_;obtain⟨rfl,ht,hs0⟩:=hm;refine .ov hK func120 results120 [] ?_;exact fun H' hs=> SortSQ.of hs (i:=0) rfl ⟨rfl,ht,hs0⟩
end
theorem Or.sortGG {dec:Int→List UInt8}{M:Md prog}{n:Nat}{H₀:View}{R:Rg}{L1:Bl}{o:Oper}{K:Rg→Bl→Prop}{cl:Go.Call}{x:Operand}{fv:Value}{d:Nat}(g:Gl 9 1)(u:List Int)(hg:g.l=(strsL dec u))(hE:Enc dec u)(h12:g.n≤100000000)
   (hop:o.op=.call cl) (hcl:cl.callee=.value x) (hx:evR R x=some fv) (has:evRs R cl.args.toList=some [g.val]) (hd:o.dst=some d) (hn:d<n)
   (hc:∀(H:View) (Q:Value→View→Prop),CallT M 120 #[g.val] H Q→FnT M fv [g.val] H Q)
   (hK:∀(g':Gl 9 1) (m:List Int),g'.val=g.val→g'.n=g.n→g'.blk=g.blk→g'.l=(strsL dec m)→Turned 0 g.n u m→Srt 0 g.n m→K ((d,.tuple ⟨[]⟩)::R) (L1++g'.bl)):Or M n H₀ R (L1++g.bl) o K:=by
 have hul:u.length=g.n:=by have:=g.hl;rw[hg,strsL_len] at this;omega
 cases hb:g.blk with
 | none=>
   have hcap:=g.h0 hb;have hgc:=g.hc;have h0:g.n=0:=by omega
   have hbl:g.bl= []:=by unfold Gl.bl;rw[hb]
   have hv:g.val=.slice none 0 g.cap:=by unfold Gl.val;rw[hb,h0];rfl
   refine Or.callNew (fun _:Unit=> .tuple ⟨[]⟩) (fun _=> []) (fun _=> True) hop hcl hx has hd hn (fun _=> by simp) (fun H hs=> hc H _ ?_) (fun _ _=> ?_)
   · rw[hv];exact CallT.mono (SortS_nil M H g.cap) (fun v H' ⟨h1,h2⟩=> ⟨h1,(),h2,trivial,by simp⟩)
   · rw[List.append_nil];exact hK g u rfl rfl rfl hg (Turned.refl _ _ _) (fun p q h1 h2 h3=> by omega)
 | some b=>
   have hbl:g.bl= [(b,true,.cells ⟨(strsL dec u)++g.junk⟩ 9 (0,0))]:=by unfold Gl.bl;rw[hb,hg]
   have hv:g.val=.slice (some ⟨b,0,none⟩) g.n g.cap:=by unfold Gl.val;rw[hb];rfl
   rw[hbl];refine Or.sortsS (dec:=dec) (l:=u) L1.length (fun v m=> v=.tuple ⟨[]⟩∧Turned 0 g.n u m∧Srt 0 g.n m) hop hcl hx has hd hn (by rw[List.getElem?_append_right (Nat.le_refl _),Nat.sub_self];rfl)
     (fun H hs=> hc H _ ?_) (fun v m ⟨h1,h2,h3⟩=> ?_)
   · rw[hv];exact SortG_c M H dec b u g.junk g.n g.cap hul.symm hE h12 (hs.get (i:=L1.length) (by rw[List.getElem?_append_right (Nat.le_refl _),Nat.sub_self];rfl))
   · subst h1;have hml:m.length=g.n:=by rw[h2.len];exact hul
     have:=hK (Gl.withS g (strsL dec m) (by rw[strsL_len];exact hml)) m rfl rfl rfl rfl h2 h3;have hbl':(Gl.withS g (strsL dec m) (by rw[strsL_len];exact hml)).bl= [(b,true,.cells ⟨(strsL dec m)++g.junk⟩ 9 (0,0))]:=by
       unfold Gl.bl Gl.withS;simp only[hb]
     rw[hbl'] at this;rw[List.set_append_right _ _ (Nat.le_refl _),Nat.sub_self];exact this
set_option maxHeartbeats 16000000
def digs1:List UInt8:= [49,50,51,52,53,54,55,56,57]
def canTo(most n:Nat):List (List UInt8):=(List.range n).flatMap fun i=> allL (digs1.take most) (i+1)
theorem canTo_succ(most n:Nat):canTo most (n+1)=canTo most n++allL (digs1.take most) (n+1):=by
 unfold canTo;rw[List.range_succ,List.flatMap_append];simp
theorem allFrom_len(dg:List UInt8):∀(d:Nat) (s:List UInt8),(allFrom dg d s).length=dg.length ^ d
 | 0,_=> rfl
 | d+1,s=> by
   unfold allFrom;rw[List.length_flatMap];have:∀x∈dg,(fun x=> (allFrom dg d (s++[x])).length) x=(fun _=> dg.length ^ d) x:=fun x _=> allFrom_len dg d _;rw[List.map_congr_left this,List.map_const',List.sum_replicate_nat,Nat.pow_succ,Nat.mul_comm]
theorem allL_len {most n:Nat}(hm:most≤3)(hn:n≤3):(allL (digs1.take most) n).length≤27:=by
 unfold allL;rw[allFrom_len];have hl:(digs1.take most).length≤3:=by rw[List.length_take];omega
 calc (digs1.take most).length ^ n≤3 ^ n:=Nat.pow_le_pow_left hl n
   _≤3 ^ 3:=Nat.pow_le_pow_right (by decide) hn
   _=27:=by decide
theorem canTo_len {most:Nat}(hm:most≤3):∀n,n≤3→(canTo most n).length≤27*n
 | 0,_=> Nat.le_refl _
 | n+1,h=> by
   rw[canTo_succ,List.length_append];have h1:=canTo_len hm n (by omega);have h2:=allL_len hm h;omega
theorem digs1_dig(most:Nat):(digs1.take most).all dig=true:=by
 have h:digs1.all dig=true:=by decide +kernel
 exact List.all_eq_true.2 fun x hx=> List.all_eq_true.1 h x (List.mem_of_mem_take hx)
theorem mem_canTo {most n:Nat}{s:List UInt8}(h:s∈canTo most n)(hn:n≤3):s.all dig=true∧s.length≤3:=by
 obtain⟨i,hi,h2⟩:=List.mem_flatMap.1 h;obtain⟨h3,h4⟩:=mem_allL h2;have:=List.mem_range.1 hi;exact⟨List.all_eq_true.2 fun y hy=> List.all_eq_true.1 (digs1_dig most) y (h4 y hy),by omega⟩
theorem perm5(a b c d e f:Nat×Bool×Obj)(B:Bl):(a::b::c::d::e::f::B).Perm (c::d::e::a::b::f::B):=by
 have h1:([a,b]++c::(d::e::f::B)).Perm (c::([a,b]++d::e::f::B)):=List.perm_middle;have h2:([a,b]++d::(e::f::B)).Perm (d::([a,b]++e::f::B)):=List.perm_middle;have h3:([a,b]++e::(f::B)).Perm (e::([a,b]++f::B)):=List.perm_middle;exact h1.trans (.cons _ (h2.trans (.cons _ h3)))
def cheap(w:Nat→Int)(nw digits most:Nat):ChSt:=cheapGo (sortS (canTo most digits)) w nw [] 0 ⟨false,0,[]⟩
def cheapV(num:Value)(t a:Int):Value:=.tuple ⟨[num,.int .i64 t,.int .i64 a]⟩
section
variable(M:Md prog)(H:View)
theorem Cheapest_k(A:Option Addr)(nw wc:Nat)(w:Nat→Int)(hA:FreeAt H A nw w)(digits most:Nat)(h0:1≤(nw:Int)∧(nw:Int)≤3)(hw:(firstTo (fun j=> !weightOk (w j)) nw).isSome=false)(hd:1≤((digits:Nat):Int)∧((digits:Nat):Int)≤3)(hm:1≤((most:Nat):Int)∧((most:Nat):Int)≤3):
   CallT M 58 #[.slice A nw wc,.int .i64 (digits:Nat),.int .i64 (most:Nat)] H (fun v H'=> H.le H'∧∃a n c',v=cheapV (.slice a n c') (cheap w nw digits most).total (cheap w nw digits most).al∧n=(cheap w nw digits most).best.length∧SrcAt H' 1 (.slice a n c') n (strsV (cheap w nw digits most).best)∧n≤c'):=by
 have hc:=fun(H':View) (h':H.le H')=> ContainsI_c M H' A nw wc w (hA.le h') (by omega) (.func (.func 140) #[] #[]) (fun j=> !weightOk (w j)) (fun j _ H'' _=> .h (weightBad_c M H'' (w j)));have hwok:∀i,i<nw→0≤w i∧w i≤99:=fun i hi=> by
   have h1:firstTo (fun j=> !weightOk (w j)) nw=none:=by
     cases hz:firstTo (fun j=> !weightOk (w j)) nw with
     | none=> rfl
     | some y=> rw[hz] at hw;cases hw
   have h2:=(firstTo_none _).1 h1 i hi;unfold weightOk at h2;simpa using h2
 refine .en func58 ntmps58 fun St c cs hK=> ?_;refine U2 ?_;refine .bo fun b3=> ?_;refine .al fun b6=> ?_;refine .al fun b7=> ?_;refine .al fun b8=> ?_;refine U7 ?_;refine .c rfl rfl rfl rfl (fun H hs=> .h (between_is M H (nw:Nat) 1 3 true (decide_eq_true h0))) ?_;refine U8 ?_;refine .c rfl rfl rfl rfl (fun H hs=> .h (isB (hc H hs.base) hw)) ?_;refine U6 ?_;refine .c rfl rfl rfl rfl (fun H hs=> .h (between_is M H (digits:Nat) 1 3 true (decide_eq_true hd))) ?_;refine U6 ?_;refine .c rfl rfl rfl rfl (fun H hs=> .h (between_is M H (most:Nat) 1 3 true (decide_eq_true hm))) ?_;refine U8 ?_;refine .al fun b9=> ?_;refine U8 ?_;refine Tc.db (Tc.loopB (σ:= { y:View×Nat×Gl 9 1//H.le y.1∧y.2.1≤digits∧y.2.2.l=strsV (canTo most y.2.1)∧y.2.2.n=(canTo most y.2.1).length })
   (fun y=> (y.1.1,[(2,.int .i64 (most:Nat)),(3,.pointer (some ⟨b3,0,none⟩)),(6,.pointer (some ⟨b6,0,none⟩)),(7,.pointer (some ⟨b7,0,none⟩)),(8,.pointer (some ⟨b8,0,none⟩)),(9,.pointer (some ⟨b9,0,none⟩)),(26,.int .i64 (digits:Nat)),(27,.int .i64 (y.1.2.1:Nat))],
     [(b9,true,.cells ⟨[y.1.2.2.val]⟩ 107 (0,0)),(b8,true,.cells ⟨[.int .i64 0]⟩ 25 (0,0)),(b7,true,.cells ⟨[.int .i64 0]⟩ 3 (0,0)),(b6,true,.cells ⟨[.slice none 0 0]⟩ 107 (0,0)),(b3,true,.cells ⟨[.slice A nw wc]⟩ 24 (0,0))]++y.1.2.2.bl)) (fun y=> digits-y.1.2.1) ?_ ⟨(H,0,Gl.nil 9 1),View.le_refl _,Nat.zero_le _,rfl,rfl⟩)
 rintro⟨⟨H₁,i,g⟩,g1,g2,g3,g4⟩ ih;simp only at g1 g2 g3 g4;show Tc M St _ _ H₁ _ [(2,.int .i64 (most:Nat)),(3,.pointer (some ⟨b3,0,none⟩)),(6,.pointer (some ⟨b6,0,none⟩)),(7,.pointer (some ⟨b7,0,none⟩)),(8,.pointer (some ⟨b8,0,none⟩)),(9,.pointer (some ⟨b9,0,none⟩)),(26,.int .i64 (digits:Nat)),(27,.int .i64 (i:Nat))]
     ([(b9,true,.cells ⟨[g.val]⟩ 107 (0,0)),(b8,true,.cells ⟨[.int .i64 0]⟩ 25 (0,0)),(b7,true,.cells ⟨[.int .i64 0]⟩ 3 (0,0)),(b6,true,.cells ⟨[.slice none 0 0]⟩ 107 (0,0)),(b3,true,.cells ⟨[.slice A nw wc]⟩ 24 (0,0))]++g.bl) _ _
 have hcl:=canTo_len (most:=most) (by omega) i (by omega);by_cases c1:i=digits
 · subst c1;refine U10 ?_;refine .e (Or.sortGG (dec:=decS (canTo most i)) (L1:= [(b9,true,.cells ⟨[g.val]⟩ 107 (0,0)),(b8,true,.cells ⟨[.int .i64 0]⟩ 25 (0,0)),(b7,true,.cells ⟨[.int .i64 0]⟩ 3 (0,0)),(b6,true,.cells ⟨[.slice none 0 0]⟩ 107 (0,0)),(b3,true,.cells ⟨[.slice A nw wc]⟩ 24 (0,0))]) g (codesS (canTo most i)) (g3.trans (strsL_codes _).symm) (codes_enc _) (by omega) rfl rfl rfl rfl rfl (by decide) (fun H Q h=> .h h) (fun g' m hv' hn' hb' hl' ht hs'=> ?_));rw[←hv'];have hso:=codes_sorted g4 ht hs';have hl2:g'.l=strsV (sortS (canTo most i)):=by rw[hl',strsL_map,hso];rfl
   have hslen:(sortS (canTo most i)).length=(canTo most i).length:=(sortS_perm _).length_eq;clear hl' ht hs' hso hv';refine U7 ?_;refine .al fun b11=> ?_;refine U9 ?_;refine To.lift (L₂:= []) (L₁:= [(b11,true,.cells ⟨[cheapF b8 b7 b3 b6 b9 b11]⟩ 249 (0,0)),(b9,true,.cells ⟨[g'.val]⟩ 107 (0,0)),(b8,true,.cells ⟨[.int .i64 9]⟩ 25 (0,0)),(b7,true,.cells ⟨[.int .i64 0]⟩ 3 (0,0)),(b6,true,.cells ⟨[.slice none 0 0]⟩ 107 (0,0)),(b3,true,.cells ⟨[.slice A nw wc]⟩ 24 (0,0))]++g'.bl) rfl (fun Hx hx=> ?_);obtain⟨H',h1,h2⟩:=SymSt.unappend (B:= [(b8,true,.cells ⟨[.int .i64 9]⟩ 25 (0,0)),(b7,true,.cells ⟨[.int .i64 0]⟩ 3 (0,0)),(b6,true,.cells ⟨[.slice none 0 0]⟩ 107 (0,0))]) (L:= [(b11,true,.cells ⟨[cheapF b8 b7 b3 b6 b9 b11]⟩ 249 (0,0)),(b9,true,.cells ⟨[g'.val]⟩ 107 (0,0)),(b3,true,.cells ⟨[.slice A nw wc]⟩ 24 (0,0))]++g'.bl) (hx.perm (by
     simp only[List.cons_append,List.nil_append];exact(perm5 _ _ _ _ _ _ _).symm))
   have hcap:ChCap (sortS (canTo most i)) w nw b8 b7 b3 b6 b9 b11 (g'.blk.map fun b=> ⟨b,0,none⟩) A g'.cap wc H':=
     ⟨⟨true,h2.get (i:=0) rfl⟩,⟨true,by have h3:=h2.get (i:=1) rfl;rw[hslen,←g4,←hn'];exact h3⟩,⟨true,h2.get (i:=2) rfl⟩,by
       have h3:=strs_of (g0:=g') g' (H:=H') (fun x hx=> h2.at_ x (List.mem_append_right _ hx)) hl2 rfl rfl;rw[hn',g4,←hslen] at h3;exact h3,(hA.le g1).le h2.base⟩
   refine To.callF rfl rfl rfl rfl rfl rfl (by decide) (FnT.of (first:= []) (captured:= [_,_,_,_,_,_]) ca142 rfl (more2_c M (sortS (canTo most i)) w nw b8 b7 b3 b6 b9 b11 (g'.blk.map fun b=> ⟨b,0,none⟩) A g'.cap wc (by omega) (by rw[hslen];omega) (fun s hs=> mem_canTo ((sortS_perm _).mem_iff.1 hs) (by omega)) hwok nw (Gl.nil 9 1) [] 0 ⟨false,0,[]⟩ none 0 0 H' Hx rfl (Nat.zero_add _) (by decide) hcap rfl ⟨⟨⟨_,_,rfl⟩,rfl,.inl ⟨none,0,rfl,rfl⟩⟩,Nat.le_refl 0⟩ h1)) (fun v H₃ hv=> ?_);obtain⟨_,H₄,g4',a4,n4,c4,r1,r2,r3,r4,r5⟩:=hv;refine To.expand r2 ?_;unfold stB;refine U2 ?_;refine Tc.dr [] [] mixed rfl ?_;refine .nn 0 ?_;refine .nn 1 ?_;refine .nn 2 ?_;refine Ta.each [3] (by kernel_rfl) rfl ⟨TaOp.mk rfl rfl rfl (.st 2 (zz:=⟨S2.mk (by exact List.Sublist.refl _) (.inr (by exact List.Sublist.refl _)),?_⟩)),trivial⟩;refine Ta.each [4] (by kernel_rfl) rfl ⟨TaOp.mk rfl rfl rfl (.st 1 (zz:=⟨S2.mk (by exact List.Sublist.refl _) (.inr (by exact List.Sublist.refl _)),?_⟩)),trivial⟩;refine Ta.each [5] (by kernel_rfl) rfl ⟨TaOp.mk rfl rfl rfl (.st 0 (zz:=⟨S2.mk (by exact List.Sublist.refl _) (.inr (by exact List.Sublist.refl _)),?_⟩)),trivial⟩;refine .dn ?_;refine .rt hK func58 results58 [_,_,_] ?_;exact fun H' hs=> ⟨View.le_trans g1 (View.le_trans h2.base (View.le_trans r1 hs.base)),a4,n4,c4,rfl,r4,r5.1.mono hs.base,r5.2⟩
 · have c2:i<digits:=by omega
   have hal:=allL_len (most:=most) (n:=i+1) (by omega) (by omega);have hlc:([49,50,51,52,53,54,55,56,57]:List UInt8).length=9:=rfl;have hdl:(digs1.take most).length≤1000:=by rw[List.length_take];omega
   refine U14 ?_;refine Tc.drT [7] [6] [0] 5 mixed rfl ?_;refine .oo 0 ?_;refine .oo 1 ?_;refine .oo 2 ?_;refine .oo 3 ?_;refine Ta.tkC 4 (by kernel_rfl) rfl rfl (by decide) rfl rfl (OpV.take (OpV.sliceS (E:=en) rfl rfl rfl rfl rfl rfl (by omega) (by omega) (by omega))) ?_;refine Ta.each [5] (by kernel_rfl) rfl ⟨TaOp.mk rfl rfl rfl (Or.callNew (fun s=> allF s.1.1 s.1.2) (allB2 (i+1) (digs1.take most)) (fun _=> True) rfl rfl rfl rfl rfl (by decide) (allB2_nodup _ _) (fun H hs=> .h (all_n M H (i+1) (digs1.take most))) (fun s _=> ⟨S3.mk (by apply List.Sublist.cons;exact List.sublist_append_left _ _) (.inr (by exact List.sublist_append_left _ _)),?_⟩)),trivial⟩;refine Ta.lift (L₂:= [(b9,true,.cells ⟨[g.val]⟩ 107 (0,0)),(b8,true,.cells ⟨[.int .i64 0]⟩ 25 (0,0)),(b7,true,.cells ⟨[.int .i64 0]⟩ 3 (0,0)),(b6,true,.cells ⟨[.slice none 0 0]⟩ 107 (0,0)),(b3,true,.cells ⟨[.slice A nw wc]⟩ 24 (0,0))]) (L₁:=g.bl++allB2 (i+1) (digs1.take most) s) rfl (fun Hx hx=> ?_);obtain⟨H',h1,h2⟩:=hx.unappend;refine Ta.callF 6 (by kernel_rfl) rfl (by kernel_rfl) rfl rfl rfl rfl rfl rfl (by decide) (FnT.h (AppendSeq_c M g (canTo most i) g3 (by omega) (i+1) (digs1.take most) (by omega) (digs1_dig most) hdl (by omega) s.1.1 s.1.2 H' Hx ⟨⟨true,h2.get (i:=0) rfl⟩,⟨true,h2.get (i:=1) rfl⟩⟩ h1)) (fun v H₃ hv=> ?_);obtain⟨g',H₂,rfl,q1,q2,q3,q4⟩:=hv;refine Ta.expand q2 ?_;refine Ta.each [7] (by kernel_rfl) rfl ⟨TaOp.mk rfl rfl rfl (.st 0 (zz:=⟨S3.off (by kernel_rfl),?_⟩)),trivial⟩;refine .dn ?_;refine U5 ?_;exact Tc.db (ih ⟨(H₂,i+1,g'),View.le_trans g1 (View.le_trans h2.base q1),by simp only;omega,by simp only;rw[canTo_succ];exact q3,by simp only;rw[canTo_succ,List.length_append,q4,g4]⟩ (by simp only;omega))
theorem Cheapest_c(A:Option Addr)(nw wc:Nat)(w:Nat→Int)(hA:FreeAt H A nw w)(digits most:Nat)(h0:1≤(nw:Int)∧(nw:Int)≤3)(hw:(firstTo (fun j=> !weightOk (w j)) nw).isSome=false)(hd:1≤((digits:Nat):Int)∧((digits:Nat):Int)≤3)(hm:1≤((most:Nat):Int)∧((most:Nat):Int)≤3):
   CallT M 58 #[.slice A nw wc,.int .i64 (digits:Nat),.int .i64 (most:Nat)] H (fun v H'=> H.le H'∧∃a n c',v=cheapV (.slice a n c') (cheap w nw digits most).total (cheap w nw digits most).al∧n=(cheap w nw digits most).best.length∧SrcAt H' 1 (.slice a n c') n (strsV (cheap w nw digits most).best)):=
 CallT.mono (Cheapest_k M H A nw wc w hA digits most h0 hw hd hm) (by
   rintro v H' ⟨h1,a,n,c',h2,h3,h4,_⟩;exact⟨h1,a,n,c',h2,h3,h4⟩)
end
end Go.Proofs.YtldmfjcgjdchcaaGreatDoor
namespace Go.Proofs.YtldmfjcgjdchcaaGreatDoor
open Go.RL Go.Proofs.Tryz
set_option maxRecDepth 10000
theorem ddTo_mem {l:List Int}{x:Int}:∀k,k≤l.length→(x∈ddTo l k↔∃i,i<k∧at0 l i=x)
 | 0,_=> by simp[ddTo]
 | k + 1,hk=> by
   have ih:=ddTo_mem (l:=l) (x:=x) k (by omega);unfold ddTo;split
   · rename_i h
     rw[ih];constructor
     · rintro⟨i,h1,h2⟩;exact⟨i,by omega,h2⟩
     · rintro⟨i,h1,h2⟩;by_cases e:i=k
       · subst e;exact⟨i-1,by omega,by rw[←h.2];exact h2⟩
       · exact⟨i,by omega,h2⟩
   · rw[List.mem_append,ih,List.mem_singleton];constructor
     · rintro(⟨i,h1,h2⟩|rfl)
       · exact⟨i,by omega,h2⟩
       · exact⟨k,by omega,rfl⟩
     · rintro⟨i,h1,h2⟩;by_cases e:i=k
       · subst e;exact .inr h2.symm
       · exact .inl ⟨i,by omega,h2⟩
theorem ddTo_asc {l:List Int}{n:Nat}(hs:Srt 0 n l)(hn:n≤l.length):∀k,k≤n→(ddTo l k).Pairwise (· < ·)
 | 0,_=> List.Pairwise.nil
 | k + 1,hk=> by
   have ih:=ddTo_asc hs hn k (by omega);unfold ddTo;split
   · exact ih
   · rename_i h
     rw[List.pairwise_append];refine⟨ih,List.pairwise_singleton _ _,fun a ha b hb=> ?_⟩;have hb':b=at0 l k:=by simpa using hb
     subst hb';obtain⟨i,h1,rfl⟩:=(ddTo_mem k (by omega)).1 ha;have h2:=hs i (k-1) (Nat.zero_le _);have h3:=hs (k-1) k (Nat.zero_le _) (by omega) (by omega);have h4:at0 l k≠at0 l (k-1):=fun e=> h ⟨by omega,e⟩;by_cases e:i=k-1
     · subst e;omega
     · have:=h2 (by omega) (by omega);omega
theorem Srt.at_mem {l:List Int}{x:Int}:x∈l↔∃i,i<l.length∧at0 l i=x:=by
 rw[List.mem_iff_getElem];constructor
 · rintro⟨i,h,rfl⟩;exact⟨i,h,by unfold at0;rw[List.getElem?_eq_getElem h];rfl⟩
 · rintro⟨i,h,e⟩;refine⟨i,h,?_⟩;unfold at0 at e;rw[List.getElem?_eq_getElem h] at e;exact e
theorem asc_uniq {l m:List Int}(hl:l.Pairwise (· < ·))(hm:m.Pairwise (· < ·))(h:∀x,x∈l↔x∈m):l=m:=by
 have hp:l.Perm m:=(List.perm_ext_iff_of_nodup (List.nodup_iff_pairwise_ne.2 (hl.imp (fun h=> Int.ne_of_lt h))) (List.nodup_iff_pairwise_ne.2 (hm.imp (fun h=> Int.ne_of_lt h)))).2 h;exact List.Perm.eq_of_pairwise (le:=(· ≤·)) (fun a b _ _ h1 h2=> Int.le_antisymm h1 h2) (hl.imp (fun h=> Int.le_of_lt h)) (hm.imp (fun h=> Int.le_of_lt h)) hp
def AscS(l:List (List UInt8)):Prop:=l.Pairwise fun a b=> Op.bytesLess a b=true
theorem ascS_uniq {l m:List (List UInt8)}(hl:AscS l)(hm:AscS m)(h:∀x,x∈l↔x∈m):l=m:=by
 have ne:∀ {a b:List UInt8},Op.bytesLess a b=true→a≠b:=fun h e=> by rw[e,less_irr] at h;cases h
 have hp:l.Perm m:=(List.perm_ext_iff_of_nodup (List.nodup_iff_pairwise_ne.2 (hl.imp ne)) (List.nodup_iff_pairwise_ne.2 (hm.imp ne))).2 h;have le:∀ {a b:List UInt8},Op.bytesLess a b=true→leS a b=true:=fun h=> by unfold leS;rw[less_asym h];rfl
 exact sorted_uniq hp (hl.imp le) (hm.imp le)
def putS(x:List UInt8):List (List UInt8)→List (List UInt8)
 | []=> [x]
 | y::t=> if Op.bytesLess x y then x::y::t else if x=y then y::t else y::putS x t
def ascOf:List (List UInt8)→List (List UInt8)
 | []=> []
 | x::t=> putS x (ascOf t)
theorem mem_putS {x z:List UInt8}:∀l,z∈putS x l↔z=x∨z∈l
 | []=> by simp[putS]
 | y ::t=> by
   unfold putS;split
   · simp
   · split
     · rename_i e
       subst e;simp
     · rw[List.mem_cons,mem_putS t,List.mem_cons];constructor
       · rintro(h|h|h)
         · exact .inr (.inl h)
         · exact .inl h
         · exact .inr (.inr h)
       · rintro(h|h|h)
         · exact .inr (.inl h)
         · exact .inl h
         · exact .inr (.inr h)
theorem putS_asc(x:List UInt8):∀l,AscS l→AscS (putS x l)
 | [],_=> List.pairwise_singleton _ _
 | y ::t,h=> by
   obtain⟨h1,h2⟩:=List.pairwise_cons.1 h;unfold putS;split
   · rename_i hx
     refine List.pairwise_cons.2 ⟨fun z hz=> ?_,h⟩;rcases List.mem_cons.1 hz with rfl|hz
     · exact hx
     · exact less_trans hx (h1 z hz)
   · rename_i hx
     split
     · exact h
     · rename_i hne
       refine List.pairwise_cons.2 ⟨fun z hz=> ?_,putS_asc x t h2⟩;rcases(mem_putS t).1 hz with rfl|hz
       · cases e:Op.bytesLess y z with
         | true=> rfl
         | false=> exact(hne (less_tri (by simpa using hx) e)).elim
       · exact h1 z hz
theorem mem_ascOf {z:List UInt8}:∀l,z∈ascOf l↔z∈l
 | []=> Iff.rfl
 | x::t=> by
   unfold ascOf;rw[mem_putS,mem_ascOf t,List.mem_cons]
theorem ascOf_asc:∀l,AscS (ascOf l)
 | []=> List.Pairwise.nil
 | x::t=> putS_asc x _ (ascOf_asc t)
theorem codes_asc {S:List (List UInt8)}{m:List Int}{n:Nat}(hn:n=S.length)(ht:Turned 0 n (codesS S) m)(hs:Srt 0 n m):(ddTo m n).map (decS S)=ascOf S:=by
 have hml:m.length=n:=by rw[ht.len,hn];simp[codesS]
 have hmem:∀x∈ddTo m n,x∈codesS S:=fun x hx=> by
   obtain⟨i,h1,rfl⟩:=(ddTo_mem n (by omega)).1 hx;exact(ht.mem _).1 (at0_mem (by omega))
 refine ascS_uniq ?_ (ascOf_asc S) (fun z=> ?_)
 · unfold AscS;rw[List.pairwise_map];have h1:=ddTo_asc hs (by omega) n (Nat.le_refl _);refine List.Pairwise.imp_of_mem (fun {a b} ha hb h3=> ?_) h1;rw[codes_enc S a (hmem a ha) b (hmem b hb)];exact decide_eq_true h3
 · rw[mem_ascOf,List.mem_map];constructor
   · rintro⟨x,hx,rfl⟩;obtain⟨s,h1,h2⟩:=List.mem_map.1 (hmem x hx);rw[←h2,dec_rank h1];exact h1
   · intro hz;refine⟨((rankS S z:Nat):Int),?_,dec_rank hz⟩;have h1:((rankS S z:Nat):Int)∈m:=(ht.mem _).2 (List.mem_map.2 ⟨z,hz,rfl⟩);obtain⟨i,h2,h3⟩:=Srt.at_mem.1 h1;exact(ddTo_mem n (by omega)).2 ⟨i,by omega,h3⟩
theorem ascOf_congr {l m:List (List UInt8)}(h:∀x,x∈l↔x∈m):ascOf l=ascOf m:=
 ascS_uniq (ascOf_asc l) (ascOf_asc m) fun x=> by rw[mem_ascOf,mem_ascOf,h]
def putI(x:Int):List Int→List Int
 | []=> [x]
 | y::t=> if x<y then x::y::t else if x=y then y::t else y::putI x t
def ascI:List Int→List Int
 | []=> []
 | x::t=> putI x (ascI t)
theorem mem_putI {x z:Int}:∀l,z∈putI x l↔z=x∨z∈l
 | []=> by simp[putI]
 | y ::t=> by
   unfold putI;split
   · simp
   · split
     · rename_i e
       subst e;simp
     · rw[List.mem_cons,mem_putI t,List.mem_cons];constructor
       · rintro(h|h|h)
         · exact .inr (.inl h)
         · exact .inl h
         · exact .inr (.inr h)
       · rintro(h|h|h)
         · exact .inr (.inl h)
         · exact .inl h
         · exact .inr (.inr h)
theorem putI_asc(x:Int):∀l:List Int,l.Pairwise (· < ·)→(putI x l).Pairwise (· < ·)
 | [],_=> List.pairwise_singleton _ _
 | y ::t,h=> by
   obtain⟨h1,h2⟩:=List.pairwise_cons.1 h;unfold putI;split
   · rename_i hx
     refine List.pairwise_cons.2 ⟨fun z hz=> ?_,h⟩;rcases List.mem_cons.1 hz with rfl|hz
     · exact hx
     · have:=h1 z hz;omega
   · rename_i hx
     split
     · exact h
     · rename_i hne
       refine List.pairwise_cons.2 ⟨fun z hz=> ?_,putI_asc x t h2⟩;rcases(mem_putI t).1 hz with rfl|hz
       · omega
       · exact h1 z hz
theorem mem_ascI {z:Int}:∀l,z∈ascI l↔z∈l
 | []=> Iff.rfl
 | x::t=> by
   unfold ascI;rw[mem_putI,mem_ascI t,List.mem_cons]
theorem ascI_asc:∀l,(ascI l).Pairwise (· < ·)
 | []=> List.Pairwise.nil
 | x::t=> putI_asc x _ (ascI_asc t)
theorem ints_asc {S m:List Int}{n:Nat}(hn:n=S.length)(ht:Turned 0 n S m)(hs:Srt 0 n m):ddTo m n=ascI S:=by
 have hml:m.length=n:=by rw[ht.len,hn]
 refine asc_uniq (ddTo_asc hs (by omega) n (Nat.le_refl _)) (ascI_asc S) (fun z=> ?_);rw[mem_ascI,ddTo_mem n (by omega),←ht.mem z,Srt.at_mem,hml]
set_option maxHeartbeats 16000000
def Bk.heardL(k:Bk):List (List UInt8):=ascOf ((k.earsL k.nt).map (·.heard))
def wordsV(g:Gl 9 1)(a:Int):Value:=.tuple ⟨[g.val,.int .i64 a]⟩
theorem nodup_le {α:Type}:∀ {l m:List α},l.Nodup→(∀x∈l,x∈m)→l.length≤m.length
 | [],_,_,_=> Nat.zero_le _
 | x ::t,m,hn,hs=> by
   obtain⟨h1,h2⟩:=List.nodup_cons.1 hn;obtain⟨a,b,rfl⟩:=List.append_of_mem (hs x (List.mem_cons_self ..));have:=nodup_le (l:=t) (m:=a++b) h2 (fun y hy=> by
     have:=hs y (List.mem_cons_of_mem _ hy);rcases List.mem_append.1 this with h|h
     · exact List.mem_append_left _ h
     · rcases List.mem_cons.1 h with rfl|h
       · exact(h1 hy).elim
       · exact List.mem_append_right _ h)
   simp only[List.length_append,List.length_cons] at this ⊢;omega
theorem ears_size {k:Bk}{es:Array MapEntry}{cl n:Nat}(h:MapOk es cl (earF (k.earsS n))):es.size≤(k.earsL n).length:=by
 have hsub:∀x∈es.toList.map (·.key),x∈(k.earsL n).map Ear.val:=by
   intro x hx;obtain⟨e,he,rfl⟩:=List.mem_map.1 hx;obtain⟨y,h1,h2,_⟩:=earF_keys h e he;exact List.mem_map.2 ⟨y,(k.mem_earsL n y).2 h1,h2.symm⟩
 have:=nodup_le h.keys hsub;simpa using this
section
variable(M:Md prog)(H:View)
def trainsL(s:List UInt8)(p:Int):List Value:=s.flatMap fun x=> [.int .i64 (pn x:Nat),.int .i64 (pn x:Nat),.int .i64 p,.int .i64 p]
end
set_option maxHeartbeats 8000000
def sgLet:List UInt8:= [65,66,67,68,69,70,71,72,73,74,75,76,77,78,79,80,81,82,83,84,85,86,87,88,89,90]
def sgFig:List UInt8:= [49,50,51,52,53,54,55,56,57,48,46,44,58,63,39,40,41,47,43,45,61,33,36,38,37,35]
def Sig(H:View):Prop:=∃f gt gz,H 4=some (f,.cells ⟨[strV sgLet,strV sgFig]⟩ gt gz)
theorem Sig.le {H H':View}(h:Sig H)(hl:H.le H'):Sig H':=h.imp fun _ ⟨gt,gz,e⟩=> ⟨gt,gz,hl _ _ e⟩
theorem e290:Xt prog 290 Extern.BytealgIndexByte.indexByte:=⟨Tryz.f290,func290,by kernel_rfl,by kernel_rfl,by kernel_rfl,by kernel_rfl⟩
def dcode(d:Nat):Nat:=if d=0 then 10 else d
theorem ix_let:∀d,d<10→ixB sgLet (UInt8.ofNat (48+d))= -1:=by decide +kernel
theorem ix_fig:∀d,d<10→ixB sgFig (UInt8.ofNat (48+d))+1=((dcode d:Nat):Int):=by decide +kernel
theorem dcode_le:∀d,d<10→1≤dcode d∧dcode d≤10:=by decide
section
variable(M:Md prog)(H:View)
theorem IndexByte0_c(s:List UInt8)(x:Nat):CallT M 241 #[strV s,.int .u8 (x:Nat)] H (fun v H'=> H.le H'∧v=.int .i64 (ixB s (UInt8.ofNat x))):=by
 refine .en func241 ntmps241 fun St c cs hK=> ?_;refine U8 ?_;refine .x (OpV.entry rfl rfl rfl rfl e290 (fun H Q hq=> vwp_ixB hq)) ?_;refine U2 ?_;refine .rt hK func241 results241 [_] ?_;exact okB
theorem IndexByte_c(s:List UInt8)(x:Nat):CallT M 176 #[strV s,.int .u8 (x:Nat)] H (fun v H'=> H.le H'∧v=.int .i64 (ixB s (UInt8.ofNat x))):=by
 refine .en func176 ntmps176 fun St c cs hK=> ?_;refine U8 ?_;refine .c rfl rfl rfl rfl (fun H hs=> .h (IndexByte0_c M H s x)) ?_;refine U2 ?_;refine .rt hK func176 results176 [_] ?_;exact okB
theorem IndexByte_is(s:List UInt8)(x:Nat)(z:Int)(h:ixB s (UInt8.ofNat x)=z):CallT M 176 #[strV s,.int .u8 (x:Nat)] H (fun v H'=> H.le H'∧v=.int .i64 z):=by
 subst h;exact IndexByte_c M H s x
theorem need_c(hG:Sig H)(d:Nat)(hd:d<10)(p:Nat)(f:Bool)(gv:Value)(gz:Nat×Nat)(hp:H p=some (f,.cells ⟨[.int .i64 1,gv]⟩ 88 gz)):
   CallT M 111 #[.pointer (some ⟨p,0,none⟩),.int .u8 ((48+d:Nat):Int)] H (fun v H'=> H.le H'∧v=.tuple ⟨[.int .i64 2,.int .i64 (dcode d:Nat),.int .i64 1]⟩):=by
 obtain⟨f4,gt4,gz4,hG4⟩:=hG;have x1:=ix_let d hd;have x2:=ix_fig d hd;have x3:=dcode_le d hd;generalize hz:ixB sgFig (UInt8.ofNat (48+d))=z at x2;refine .en func111 ntmps111 fun St c cs hK=> ?_;refine U31 ?_;refine .done (.block (.loop (.sr ?_)));refine U10 ?_;refine .x (OpV.index (E:=en) rfl rfl rfl rfl rfl rfl (by omega) (by omega) (by exact rfl)) ?_;refine U7 ?_;refine .c rfl rfl rfl rfl (fun H hs=> .h (IndexByte_is M H sgLet (48+d) (-1) x1)) ?_;refine U14 ?_;refine Tc.inLoop ?_;refine U12 ?_;refine .x (OpV.index (E:=en) rfl rfl rfl rfl rfl rfl (by omega) (by omega) (by exact rfl)) ?_;refine U7 ?_;refine .c rfl rfl rfl rfl (fun H hs=> .h (IndexByte_is M H sgFig (48+d) z hz)) ?_;refine U20 ?_;refine Tc.dr [] [] mixed rfl ?_;refine .nn 0 ?_;refine .nn 1 ?_;refine .nn 2 ?_;refine .nn 3 ?_;refine .nn 4 ?_;refine .nn 5 ?_;refine .nn 6 ?_;refine .nn 7 ?_;refine .nn 8 ?_;refine .dn ?_;refine .rt hK func111 results111 [_,_,_] ?_;refine fun H' hs=> ⟨hs.base,?_⟩
 rw[←x2];rfl
def puL(p:Nat)(g:Gl 3 1):Bl:=(p,true,.cells ⟨[.int .i64 1,g.val]⟩ 88 (0,0))::g.bl
def puP(d:Nat)(g g':Gl 3 1):Prop:=g'.n=g.n+1∧g'.l=g.l++[.int .i64 (dcode d:Nat)]
theorem punch_c(H₁:View)(hG:Sig H₁)(d:Nat)(hd:d<10)(p:Nat)(g:Gl 3 1)(hg:g.n≤1000)(hs₀:SymSt H₁ (puL p g) H):
   CallT M 38 #[.pointer (some ⟨p,0,none⟩),.int .u8 ((48+d:Nat):Int)] H (TurnQ H₁ (fun _=> .bool true) (fun g':Gl 3 1=> puL p g') (puP d g)):=by
 refine CallT.enter (vs:= [.pointer (some ⟨p,0,none⟩),.int .u8 ((48+d:Nat):Int)]) func38 rfl ntmps38 (Nat.le_of_ble_eq_true rfl) (hs₀) fun St c cs hK=> ?_;refine U8 ?_;refine .c rfl rfl rfl rfl (fun H hs=> .h (need_c M H (hG.le hs.base) d hd p true g.val (0,0) (hs.get (i:=0) rfl))) ?_;refine U43 ?_;refine .e (.bs (zz:=fun bs=> ?_));refine .e (Or.append (E:=en) 2 rfl rfl rfl rfl rfl rfl rfl rfl rfl rfl rfl rfl rfl rfl rfl (fun H hs=> SrcAt.of (hs.get (i:=0) rfl) (Nat.le_of_ble_eq_true rfl)) rfl (by omega) rfl (by decide) (fun g2 hn2 hl2=> ?_));refine U8 ?_;refine .rt hK func38 results38 [_] ?_;exact fun H' hs=> ⟨g2,H₁,rfl,View.le_refl _,hs.sub (List.sublist_cons_self _ _),hn2,hl2⟩
theorem betweenC_c(x lo hi:Int)(t:Bool)(ht:decide (lo≤x∧x≤hi)=t):CallT M 37 #[.int .i64 x,.int .i64 lo,.int .i64 hi] H (fun v H'=> H.le H'∧v=.bool t):=by
 subst ht;refine .en func37 ntmps37 fun St c cs hK=> ?_;by_cases c1:lo≤x
 all_goals by_cases c2:x≤hi
 all_goals
   refine U8 ?_;refine .i ?_ (z:=by first|exact leq_t (by omega)|exact leq_f (by omega));refine U ?_;first|(refine .sk ?_)|(refine .m ?_)
   first|(refine .sk ?_)|(refine .m ?_)
   first|(refine .sk ?_)|(refine .x (.it (zz:=(by first|exact leq_t (by omega)|exact leq_f (by omega)))) ?_)
   refine U3 ?_;refine .rt hK func37 results37 [_] ?_;exact fun H' hs=> ⟨hs.base,by simp[packV,c1,c2]⟩
def codesL(s:List UInt8):List Value:=s.map fun x=> .int .i64 (pn x:Nat)
theorem codesL_snoc {s:List UInt8}{p:Nat}{x:UInt8}(h:s[p]? =some x):codesL (s.take (p+1))=codesL (s.take p)++[.int .i64 (pn x:Nat)]:=by
 obtain⟨hp,rfl⟩:=List.getElem?_eq_some_iff.1 h;unfold codesL;rw[List.take_succ_eq_append_getElem hp,List.map_append];rfl
theorem dig_d {x:UInt8}(h:dig x=true):∃d,d<10∧x.toNat=48+d∧dcode d=pn x:=by
 have h1:48≤x.toNat∧x.toNat<58:=of_decide_eq_true h;refine⟨x.toNat-48,by omega,by omega,?_⟩;unfold dcode pn;split <;> split <;> omega
theorem Encode_c(hG:Sig H)(s:List UInt8)(hs1:s.all dig=true)(hs2:s.length≤12):
   CallT M 10 #[strV s,.int .i64 1] H (fun v H'=> H.le H'∧∃g:Gl 3 1,v=.tuple ⟨[g.val,.int .i64 0]⟩∧(g.n=s.length∧g.l=codesL s)∧∀x∈g.bl,H' x.1=some x.2∧H x.1=none):=by
 refine .en func10 ntmps10 fun St c cs hK=> ?_;refine U9 ?_;refine .c rfl rfl rfl rfl (fun H hs=> .h (betweenC_c M H 1 0 2 true rfl)) ?_;refine U8 ?_;refine .bo fun p=> ?_;refine U6 ?_;refine .e (Or.convSB (E:=en) rfl rfl rfl rfl rfl rfl rfl rfl rfl (by decide) (fun sb cap jj fz=> ?_));refine U4 ?_;refine Tc.db (Tc.loopInv (σ:= { x:Nat×Gl 3 1//x.1≤s.length∧x.2.n=x.1∧x.2.l=codesL (s.take x.1) }) (fun x=> ([(6,.pointer (some ⟨p,0,none⟩)),(16,.slice (some ⟨sb,0,none⟩) s.length cap),(17,.int .i64 (s.length:Nat)),(18,.int .i64 (x.1.1:Nat))],(sb,true,.cells ⟨bytesV s++jj⟩ 5 fz)::puL p x.1.2)) (fun x=> s.length-x.1.1) ?_ ⟨(0,Gl.nil 3 1),Nat.zero_le _,rfl,rfl⟩);rintro⟨⟨q,g⟩,hq,hgn,hgl⟩ ih;simp only at hq hgn hgl;show Tc M St _ _ _ _ [(6,.pointer (some ⟨p,0,none⟩)),(16,.slice (some ⟨sb,0,none⟩) s.length cap),(17,.int .i64 (s.length:Nat)),(18,.int .i64 (q:Nat))] ((sb,true,.cells ⟨bytesV s++jj⟩ 5 fz)::puL p g) _ _;by_cases c1:q=s.length
 · clear ih;subst c1;rw[List.take_length] at hgl;refine U28 ?_;refine .rt hK func10 results10 [_,_] ?_;exact fun H' hs=> ⟨hs.base,g,rfl,⟨hgn,hgl⟩,fun x hx=> ⟨hs.at_ x (by simp[puL,hx]),hs.out x (by simp[puL,hx])⟩⟩
 · have c2:q<s.length:=by omega
   obtain⟨x,hx,hdx,hdec⟩:=dec_dig s q c2 hs1;obtain⟨d,hd,hxd,hpd⟩:=dig_d hdx;have f1:ldL false 1 (bytesV s++jj) (0+((q:Nat):Int).toNat*1)=some (.int .u8 ((48+d:Nat):Int)):=by
     show(bytesV s++jj)[0+((q:Nat):Int).toNat*1]? =_;rw[Int.toNat_natCast,Nat.zero_add,Nat.mul_one,List.getElem?_append_left (by rw[bytesV_len];exact c2)];unfold bytesV;rw[List.getElem?_map,hx,←hxd];rfl
   refine U19 ?_;refine .e (Or.callTurn 1 (σ:=Gl 3 1) (fun _=> .bool true) (fun g'=> puL p g') (puP d g) rfl rfl rfl rfl rfl (by decide) (fun H₁ H₂ hs3 hs4=> .h (punch_c M H₂ H₁ (hG.le hs3.base) d hd p g (by omega) hs4)) (fun g2 hg2=> ?_));refine U9 ?_;exact Tc.db (ih ⟨(q+1,g2),by simp only;omega,by simp only;rw[hg2.1,hgn],by simp only;rw[hg2.2,hgl,codesL_snoc hx,hpd]⟩ (by simp only;omega))
end
end Go.Proofs.YtldmfjcgjdchcaaGreatDoor
namespace Go.RL
open Go.Conc Go.ConcN Go.RL.Au
open Go.ConcR (stA smA)
open Go.ConcM (muA OsLater)
section
variable {X:Fk}{B:View}{base N:Nat}{os0:Os0}{w w':World}{t:Trace}{ths:List Th}{m m':Mn}{s s':Sh}{H:Nat→View}{D:Nat→Bool}{fn:FuncId}{pos:String}
theorem set_get {ths:List Th}{κ:Nat}{T T':Th}(hκ:ths[κ]? =some T):∀(κ':Nat) T'',(ths.set κ T')[κ']? =some T''→(κ'=κ∧T''=T')∨(κ'≠κ∧ths[κ']? =some T''):=fun κ' T'' h'=> by
 by_cases e:κ=κ'
 · subst e;rw[List.getElem?_set_self (List.getElem?_eq_some_iff.1 hκ).1] at h';cases h'
   exact .inl ⟨rfl,rfl⟩
 · rw[List.getElem?_set_ne e] at h';exact .inr ⟨Ne.symm e,h'⟩
theorem one_mark(i:Nat)(mm:Mark):MemOp.ofEvents i fn pos #[Go.ConcR.mk mm]=#[{ g:=i,fn,pos,act:=.mark mm }]:=by
 rw[ofEvents_eq];simp[Go.ConcR.ofEvent_mk]
theorem mark_deaf {i j:Nat}{mm:Mark}(h1:mm≠ .disable)(h2:mm≠ .enable):Deaf (t++MemOp.ofEvents i fn pos #[Go.ConcR.mk mm]) j=Deaf t j:=by
 refine Deaf_still t j _ fun op hop=> ?_;rw[one_mark] at hop;simp at hop
 subst hop;simp[h1,h2]
theorem also_ne {D:Nat→Bool}{κ κ':Nat}(e:κ'≠κ):also D κ κ'=D κ':=by simp[also,e]
theorem WT.ownW(h:WT X B base N os0 w t ths m s H D)(ne:X.Wg≠X.C){κ:Nat}(hκ:ths[κ]? =some .pw)(hN:base+κ<N){w':World}{o':Obj}{es:Array Event}{D':Nat→Bool}(ht:OwnW X κ w w' o' es)(hG:X.GI D' o'):
   WT X B base N os0 w' (t++MemOp.ofEvents (base+κ) fn pos es) (ths.set κ .wr) m s H D':=by
 obtain⟨_,h3,h4⟩:=h.free;have hops:∀op∈MemOp.ofEvents (base+κ) fn pos es,op.g=base+κ∧op.act=MemAct.ofEvent ⟨.cell ⟨X.C,κ,none⟩,true,false⟩:=by
   rw[ofEvents_eq];intro op hop;obtain⟨e,he,rfl⟩:=Array.mem_map.1 hop;rw[ht.ev e he];exact⟨rfl,rfl⟩
 have hown:∀op∈MemOp.ofEvents (base+κ) fn pos es,op.g=base+κ:=fun op hop=> (hops op hop).1;have hto:∀op∈MemOp.ofEvents (base+κ) fn pos es,∀a,op.act.touch? =some a→a.kind=.plain∧a.loc=.cell ⟨X.C,κ,none⟩:=fun op hop a ha=> by
   rw[(hops op hop).2] at ha;simp[MemAct.ofEvent,MemAct.touch?] at ha
   subst ha;exact⟨rfl,rfl⟩
 have hdd:∀j,Deaf (t++MemOp.ofEvents (base+κ) fn pos es) j=Deaf t j:=fun j=> Deaf_still t j _ fun op hop=> by rw[(hops op hop).2];simp[MemAct.ofEvent]
 have hsat:∀V:View,V X.C=none→Sat V w→Sat V w':=fun V hV hs b f o hbb=> by
   rw[ht.rest b (by rintro rfl;rw[hV] at hbb;cases hbb)];exact hs b f o hbb
 refine⟨⟨by rw[ht.rest _ ne];exact h.sh.wg⟩,by rw[ht.size];exact h.cb,⟨fun g=> hsat _ (h3 g) (h.vi.sat g),h.vi.dj,h.vi.sh,hsat _ h.vi.bn.2 h.vi.bs,h.vi.bd,h.vi.bn⟩,h.hx,?_,⟨⟨o',ht.at_,hG⟩,h3,h4.own hown hto⟩,fun κ' T hκ' hT=> ?_,by rw[hdd];exact h.df0,fun κ' T hκ' hT=> ?_,h.os.trans ht.os⟩
 · rw[ht.size];exact h.ti.own h4 hN hown hto (fun op hop a e=> by rw[(hops op hop).2] at e;simp[MemAct.ofEvent] at e) h3 ⟨Ne.symm ne,Ne.symm ne⟩ h.cb
 · rcases set_get hκ κ' T hκ' with ⟨rfl,rfl⟩|⟨e,hκ''⟩
   · cases hT
   · obtain⟨r,hr⟩:=h.muted κ' T hκ'' hT;exact⟨r,hr.appOther (g:=base+κ) hown (by omega)⟩
 · rw[hdd];rcases set_get hκ κ' T hκ' with ⟨rfl,rfl⟩|⟨e,hκ''⟩
   · exact h.dfw κ' .pw hκ (by simp)
   · exact h.dfw κ' T hκ'' hT
theorem WT.mute(h:WT X B base N os0 w t ths m s H D)(ne:X.Wg≠X.C){κ:Nat}(hκ:ths[κ]? =some .wr)(hN:base+κ<N):
   WT X B base N os0 w (t++MemOp.ofEvents (base+κ) fn pos #[Go.ConcR.mk (.releaseMerge (stA X.Wg))]) (ths.set κ .wk) m s H D:=by
 have hlt:=(List.getElem?_eq_some_iff.1 hκ).1;have hact:Act base N (base+κ):=.inr ⟨by omega,hN⟩;have hop:=mark_op (X:=X) (H:=H (base+κ)) (g:=base+κ) (fn:=fn) (pos:=pos) (m:=.releaseMerge (stA X.Wg)) (t:=t) (fun x hx=> by cases hx) (fun a e=> by cases e);have hd0:Deaf t (base+κ)=0:=h.dfw κ _ hκ (by simp);have hdd:∀j,Deaf (t++MemOp.ofEvents (base+κ) fn pos #[Go.ConcR.mk (.releaseMerge (stA X.Wg))]) j=Deaf t j:=fun j=> mark_deaf (by simp) (by simp);refine⟨h.sh,h.cb,h.vi,h.hx,h.tiOwn ne hact hN hop,?_,fun κ' T hκ' hT=> ?_,by rw[hdd];exact h.df0,fun κ' T hκ' hT=> ?_,h.os⟩
 · obtain⟨h1,h3,h4⟩:=h.free;refine⟨h1,h3,h4.grow fun op hopm x hx=> ?_⟩;rw[one_mark] at hopm;simp at hopm
   subst hopm;cases hx
 · rcases set_get hκ κ' T hκ' with ⟨rfl,rfl⟩|⟨e,hκ''⟩
   · exact⟨_,RelBy.new hd0 fn pos⟩
   · obtain⟨r,hr⟩:=h.muted κ' T hκ'' hT;exact⟨r,hr.appOther (g:=base+κ) hop.own (by omega)⟩
 · rw[hdd];rcases set_get hκ κ' T hκ' with ⟨rfl,rfl⟩|⟨e,hκ''⟩
   · exact hd0
   · exact h.dfw κ' T hκ'' hT
theorem ro_some {R:View}{b:Nat}{f:Bool}{o:Obj}(h:ro R b=some (f,o)):f=false∧∃f',R b=some (f',o):=by
 unfold ro at h;obtain⟨x,hx,he⟩:=Option.map_eq_some_iff.1 h;cases he
 exact⟨rfl,x.1,hx⟩
theorem ro_none {R:View}{b:Nat}(h:R b=none):ro R b=none:=by simp[ro,h]
theorem WT.fork(h:WT X B base N os0 w t ths .go s H D)(hb:1≤base)(hN:N=base+ths.length)(hm:m'.deaf=0){x y:MemOp}(hx:x.g=0∧x.act=.go N)(hy:y.g=N∧y.act=.start):
   WT X B base (N+1) os0 w (t ++ #[x,y]) (ths++[.pw]) m' s (upd (upd H 0 (ro (H 0))) N (ro (H 0))) D:=by
 have hN0:N≠0:=by omega
 have hHN:∀b,H N b=none:=h.hx N fun hh=> hh.elim hN0 fun hh=> by omega
 have hd0:Deaf t 0=0:=h.df0;have hops:∀op∈#[x,y],op.act≠ .mark .disable∧op.act≠ .mark .enable:=by
   intro op hop;simp only[List.mem_toArray,List.mem_cons,List.not_mem_nil,or_false] at hop;rcases hop with rfl|rfl
   · rw[hx.2];simp
   · rw[hy.2];simp
 have hdd:∀j,Deaf (t ++ #[x,y]) j=Deaf t j:=fun j=> Deaf_still t j _ hops;have hV:∀j b,upd (upd H 0 (ro (H 0))) N (ro (H 0)) j b=if j=N∨j=0 then ro (H 0) b else H j b:=fun j b=> by
   by_cases e:j=N
   · subst e;rw[upd_same,if_pos (.inl rfl)]
   · rw[upd_ne _ _ e];by_cases e0:j=0
     · subst e0;rw[upd_same,if_pos (.inr rfl)]
     · rw[upd_ne _ _ e0,if_neg (by simp[e,e0])]
 have get:∀(κ:Nat) T,(ths++[Th.pw])[κ]? =some T→ths[κ]? =some T∨(κ=ths.length∧T=.pw):=fun κ T hκ=> by
   rw[List.getElem?_append] at hκ;split at hκ
   · exact .inl hκ
   · cases hz:κ-ths.length with
     | zero=> rw[hz] at hκ;cases hκ;exact .inr ⟨by omega,rfl⟩
     | succ z=> rw[hz] at hκ;cases hκ
 refine⟨h.sh,h.cb,⟨fun j b f o hbb=> ?_,fun i j hij b o hi=> ?_,fun j=> ?_,h.vi.bs,fun j b x' o hbb hj=> ?_,h.vi.bn⟩,fun g hg b=> ?_,?_,?_,fun κ T hκ hT=> ?_,by rw[hdd,hm];exact hd0,fun κ T hκ hT=> ?_,h.os⟩
 · rw[hV] at hbb;split at hbb
   · obtain⟨_,f',h1⟩:=ro_some hbb;exact h.vi.sat 0 b f' o h1
   · exact h.vi.sat j b f o hbb
 · rw[hV] at hi ⊢;split at hi
   · have:=(ro_some hi).1;cases this
   · split
     · exact ro_none (h.vi.dj i 0 (by omega) b o hi)
     · exact h.vi.dj i j hij b o hi
 · rw[hV];split
   · exact ro_none (h.vi.sh 0)
   · exact h.vi.sh j
 · rw[hV] at hj;split at hj
   · have:=(ro_some hj).1;cases this
   · exact h.vi.bd j b x' o hbb hj
 · rw[hV,if_neg (by
     rintro(rfl|rfl)
     · exact hg (.inr ⟨by omega,by omega⟩)
     · exact hg (.inl rfl))]
   exact h.hx g (fun hh=> hg (hh.imp id fun⟨h1,h2⟩=> ⟨h1,by omega⟩)) b
 · exact h.ti.fork hx hy hd0 (by omega) (by omega) (fun b f o hbb=> ro_some hbb) hHN
 · obtain⟨h1,h3,h4⟩:=h.free;refine⟨h1,fun g=> ?_,h4.fork h.ti.gs hx hy hd0⟩;rw[hV];split
   · exact ro_none (h3 0)
   · exact h3 g
 · rcases get κ T hκ with hκ'|⟨_,rfl⟩
   · obtain⟨r,hr⟩:=h.muted κ T hκ' hT;have hlt:=(List.getElem?_eq_some_iff.1 hκ').1;refine⟨r,hr.app fun i hi hgi hc=> ?_⟩;obtain⟨a,ha,_⟩:=hc;obtain⟨op,hop,hopa⟩:=touch_of ha;rcases getElem?_append_cases hop with ⟨hl,_⟩|⟨_,hopu⟩
     · omega
     · simp only[List.mem_toArray,List.mem_cons,List.not_mem_nil,or_false] at hopu;rcases hopu with rfl|rfl
       · rw[hx.2] at hopa;cases hopa
       · rw[hy.2] at hopa;cases hopa
   · cases hT
 · rw[hdd];rcases get κ T hκ with hκ'|⟨rfl,rfl⟩
   · exact h.dfw κ T hκ' hT
   · rw[←hN];exact Deaf_absent fun i op hi e=> by have:=h.ti.gs i op hi;omega
end
theorem mn_nil {s:Sh}{t:Mn}(hp:t.plain=true)(hm:t.mv s= []):t=.ws∧s.q=0:=by
 cases t <;> simp only[Mn.mv] at hm
 case go=> cases hp
 case ret=> cases hp
 case ws=>
   split at hm
   · exact⟨rfl,by assumption⟩
   · cases hm
 case w2=> split at hm <;> cases hm
 all_goals cases hm
theorem TI.bare {Mu Wg C base N hs g:Nat}{H:Nat→View}{B:View}{t u:Trace}(h:TI Mu Wg C base N hs H B t)(hg:∀op∈u,op.g=g)(hN:g<N)(hu:∀op∈u,op.act.touch? =none)(hr:∀op∈u,∀a,op.act≠ .mark (.release a)):TI Mu Wg C base N hs H B (t++u):=by
 have old:∀ {i:Nat} {a:Touch},touchAt (t++u) i=some a→touchAt t i=some a∧i<t.size:=by
   intro i a ha;rcases touch_cases ha with ⟨hi,ha'⟩|⟨hi,op,hop,_,hxx⟩
   · exact⟨ha',hi⟩
   · rw[hu op hop] at hxx;cases hxx
 have oldop:∀ {i:Nat} {op:MemOp} {a:Touch},(t++u)[i]? =some op→op.act.touch? =some a→t[i]? =some op∧i<t.size:=by
   intro i op a hop ha;rcases getElem?_append_cases hop with ⟨hi,hop'⟩|⟨hi,hopu⟩
   · exact⟨hop',hi⟩
   · rw[hu op hopu] at ha;cases ha
 refine⟨fun said=> noRace_append (h.nr said) hg fun i a _ op hop b hb _=> (by rw[hu op hop] at hb;cases hb),fun i a b ha hb=> h.bd i a b (old ha).1 hb,fun j hj i a b f o ha hb hH hw=> (h.kn j hj i a b f o (old ha).1 hb hH hw).app u,
   fun i op a hop ha hk hlt=> (h.pl i op a (oldop hop ha).1 ha hk hlt).app u,fun i a b ha hk hb=> h.np i a b (old ha).1 hk hb,fun i op a hop ha hk=> ?_,fun j hj i a b ha hk hb hbb=> (h.sy j hj i a b (old ha).1 hk hb hbb).app u,fun a=> (h.rel a).app fun op hop=> hr op hop a,fun i op hop=> ?_,fun i a ha=> h.mem i a (old ha).1⟩
 · obtain⟨h3,hi⟩:=oldop hop ha;obtain⟨h1,h2⟩:=h.np2 i op a h3 ha hk;exact⟨h1,fun e e'=> by rw[heard_old hi];exact h2 e e'⟩
 · rcases getElem?_append_cases hop with ⟨hi,hop'⟩|⟨hi,hopu⟩
   · exact h.gs i op hop'
   · rw[hg op hopu];exact hN
theorem mute_ops {g:Nat}{fn:FuncId}{pos:String}{es:Array Event}(h:∀e∈es,e.mute=true):∀op∈MemOp.ofEvents g fn pos es,op.g=g∧op.act.touch? =none∧∀a,op.act≠ .mark (.release a):=by
 rw[ofEvents_eq];intro op hop;obtain⟨e,he,rfl⟩:=Array.mem_map.1 hop;have:=h e he;obtain⟨loc,wr,sy⟩:=e;cases loc with
 | mark m=> cases m <;> simp[Event.mute] at this <;> simp[MemAct.ofEvent,MemAct.touch?]
 | _=> simp[Event.mute] at this
section
variable {P:Program}{X:Fk}{Fin:Goroutine→Prop}{B:View}{base:Nat}{os0:Os0}{gs:Array Goroutine}{w:World}{t:Trace}{ths:List Th}{m:Mn}{s:Sh}{H:Nat→View}{ks:Nat→Nat}{rks:List Rank}{q:Nat→Nat}{D:Nat→Bool}
variable {sl:Option (Nat×Nat)}
theorem WT.leave {N:Nat}(h:WT X B base N os0 w t ths m s H D){i:Nat}{fn:FuncId}{pos:String}{es:Array Event}(hi:0<i)(hN:i<N)(hm:∀e∈es,e.mute=true)(hq:∀(κ:Nat) T,ths[κ]? =some T→base+κ=i→T=.quit):
   WT X B base N os0 w (t++MemOp.ofEvents i fn pos es) ths m s H D:=by
 have ho:=mute_ops (g:=i) (fn:=fn) (pos:=pos) hm;have hown:∀op∈MemOp.ofEvents i fn pos es,op.g=i:=fun op hop=> (ho op hop).1;refine⟨h.sh,h.cb,h.vi,h.hx,h.ti.bare hown hN (fun op hop=> (ho op hop).2.1) (fun op hop=> (ho op hop).2.2),?_,fun κ T hκ hT=> ?_,?_,fun κ T hκ hT=> ?_,h.os⟩
 · obtain⟨h1,h3,h4⟩:=h.free;exact⟨h1,h3,h4.grow fun op hop x hx=> by rw[(ho op hop).2.1] at hx;cases hx⟩
 · obtain⟨r,hr⟩:=h.muted κ T hκ hT;refine⟨r,hr.app fun j hj hgj hc=> ?_⟩;obtain⟨a,ha,_⟩:=hc;obtain⟨op,hop,hopa⟩:=touch_of ha;rcases getElem?_append_cases hop with ⟨hl,_⟩|⟨_,hopu⟩
   · omega
   · rw[(ho op hopu).2.1] at hopa;cases hopa
 · rw[Deaf_other t (g:=0) (g':=i) (by omega) _ hown];exact h.df0
 · have e:i≠base+κ:=fun e=> hT (hq κ T hκ e.symm);rw[Deaf_other t (g:=base+κ) (g':=i) e _ hown];exact h.dfw κ T hκ hT
theorem PI.pos(h:PI P X Fin B base os0 gs w t ths m s H ks rks q D):∀i,Act base gs.size i→0<ks i:=fun i hi=> Nat.lt_of_le_of_lt (Nat.zero_le _) (h.depth i hi)
theorem PI.at(h:PI P X Fin B base os0 gs w t ths m s H ks rks q D)(d:Nat):PI P X Fin B base os0 gs (w.at d) t ths m s H ks rks q D:=⟨h.inv,h.b1,h.ne,h.dd,h.depth,h.wt.at d,h.si⟩
def PI.meas(X:Fk)(gs:Array Goroutine)(ths:List Th)(m:Mn)(s:Sh)(rks:List Rank)(q:Nat→Nat):Meas:=(mu X.n ths m s,rks,sumTo gs.size q,runs gs)
def Goes(P:Program)(X:Fk)(Fin:Goroutine→Prop)(B:View)(base:Nat)(os0:Os0)(μ:Meas)(w:World)(t:Trace)(gs:Array Goroutine)(r:Stepped×Array MemOp):Prop:=
 (∃gs' w' sl' ops ths' m' s' H' ks' rks' q' D',r=(.next (crowd gs' w' sl'),ops)∧PI P X Fin B base os0 gs' w' (t++ops) ths' m' s' H' ks' rks' q' D'∧LtMeas (PI.meas X gs' ths' m' s' rks' q') μ)∨
 (∃gs' sl' g g' ths s H ks rks q D,gs[0]? =some g∧r=(.next (crowd gs' w sl'),MemOp.ofEvents 0 g.frame.fn g.frame.place #[Go.ConcR.mk (.acquire (stA X.Wg))])∧gs'=stepd P gs 0 g g' w∧Fin g'∧PI P X Fin B base os0 gs w t ths .aq s H ks rks q D)
theorem PI.dd_set(h:PI P X Fin B base os0 gs w t ths m s H ks rks q D){κ:Nat}{T T':Th}(hκ:ths[κ]? =some T)(hd:T'.did=T.did):∀κ',D κ'=(((ths.set κ T')[κ']?).map Th.did).getD false:=fun κ'=> by
 rw[h.dd κ'];by_cases e:κ=κ'
 · subst e;rw[List.getElem?_set_self (List.getElem?_eq_some_iff.1 hκ).1,hκ];simp[hd]
 · rw[List.getElem?_set_ne e]
theorem deaf_others {i:Nat}{u:Trace}(hu:∀op∈u,op.g=i):∀j,j≠i→Deaf (t++u) j=Deaf t j:=fun j hj=> Deaf_other t (g:=j) (g':=i) (Ne.symm hj) u hu
theorem ofEvents_g {g:Nat}{fn:FuncId}{pos:String}{es:Array Event}:∀op∈MemOp.ofEvents g fn pos es,op.g=g:=by
 rw[ofEvents_eq];intro op hop;obtain⟨e,_,rfl⟩:=Array.mem_map.1 hop;rfl
theorem lt_mu {a b:Nat}{x y:List Rank×(Nat×Nat)}(h:a<b):LtMeas (a,x) (b,y):=.left _ _ h
theorem lt_rk {a:Nat}{x y:List Rank}{u v:Nat×Nat}(h:LtL x y):LtMeas (a,x,u) (a,y,v):=.right _ (.left _ _ h)
theorem lt_q {a b c:Nat}{x:List Rank}{u v:Nat}(h:b<c):LtMeas (a,x,b,u) (a,x,c,v):=.right _ (.right _ (.left _ _ h))
theorem lt_run {a b:Nat}{x:List Rank}{u v:Nat}(h:u<v):LtMeas (a,x,b,u) (a,x,b,v):=.right _ (.right _ (.right _ h))
theorem runs_block {i:Nat}{g g':Goroutine}(hi:gs[i]? =some g)(hg:g.status=.running)(hg':g'.status=.blocked):runs (stepd P gs i g g' w)<runs gs:=by
 have e:stepd P gs i g g' w=gs.setIfInBounds i g':=by
   unfold stepd;have:woken P g g' w=id:=by
     funext o
     simp[woken,hg']
   rw[this,Array.map_id]
 rw[e];obtain⟨hlt,rfl⟩:=Array.getElem?_eq_some_iff.1 hi;unfold runs;rw[Array.toList_setIfInBounds];have:=List.countP_set (p:=fun g:Goroutine=> g.status==.running) (l:=gs.toList) (i:=i) (a:=g') (by simpa using hlt);rw[this];have h1:((gs.toList[i]'(by simpa using hlt)).status==GoStatus.running)=true:=by simpa using hg
 have h2:0<gs.toList.countP fun g:Goroutine=> g.status==.running:=List.countP_pos_iff.2 ⟨gs[i],by simp,by simp[hg]⟩;have h3:¬(g'.status==GoStatus.running)=true:=by simp[hg']
 rw[if_pos h1,if_neg h3];omega
theorem PI.moveW(h:PI P X Fin B base os0 gs w t ths m s H ks rks q D){κ k:Nat}{T T':Th}{s':Sh}{g g':Goroutine}{w':World}{es:Array Event}{H':View}{D':Nat→Bool}{ρ':Rank}{q':Nat}(hκ:ths[κ]? =some T)(hg:gs[base+κ]? =some g)(hk:ks (base+κ)=k+1)
   (hm:(T',s')∈T.mv s) (hst:stepG P false g w=.go g' w' es) (hwt:WT X B base gs.size os0 w' (t++MemOp.ofEvents (base+κ) g.frame.fn g.frame.place es) (ths.set κ T') m s' (upd H (base+κ) H') D')
   (hs:SitW P X κ T' k H' ρ' q' (Deaf (t++MemOp.ofEvents (base+κ) g.frame.fn g.frame.place es) (base+κ)) g') (hdd:∀κ',D' κ'=(((ths.set κ T')[κ']?).map Th.did).getD false)
   (hQ:s'.q≤s.q∨(mayWake P g=true∧g'.status=.running)):
   Goes P X Fin B base os0 (PI.meas X gs ths m s rks q) w t gs (runT P (crowd gs w sl) (base+κ)):=by
 have hN:base+κ<gs.size:=(Array.getElem?_eq_some_iff.1 hg).1;have hb:=h.b1;have hact:Act base gs.size (base+κ):=.inr ⟨by omega,hN⟩;have hi0:(base+κ==0)=false:=by simp;omega
 have hmu:=mu_worker h.inv hκ hm;have hdep:=h.depth _ hact;rw[hk] at hdep;have hsi:=h.si.worker (w':=w') (g:=g) (g':=g') (T':=T') (H':=H') (k':=k) (q':=q') (ρ':=ρ') (s':=s') hb h.pos hκ (deaf_others ofEvents_g) hQ hs;refine .inl ⟨stepd P gs (base+κ) g g' w',w',sl,_,ths.set κ T',m,s',_,_,_,_,D',runT_crowd_go hg (by rw[hi0];exact hst),⟨h.inv.step hκ hm,hb,h.ne,hdd,fun j hj=> ?_,?_,hsi⟩,lt_mu hmu⟩
 · rw[stepd_size] at hj;by_cases e:j=base+κ
   · subst e;rw[upd_same];omega
   · rw[upd_ne _ _ e];exact Nat.lt_trans hmu (h.depth j hj)
 · rw[stepd_size];exact hwt
theorem PI.stopW(h:PI P X Fin B base os0 gs w t ths m s H ks rks q D){κ k:Nat}{T:Th}{g:Goroutine}(hκ:ths[κ]? =some T)(hg:gs[base+κ]? =some g)(hk:ks (base+κ)=k+1)
   (hs:WS P X κ (k+1) T (H (base+κ)) g):
   Goes P X Fin B base os0 (PI.meas X gs ths m s rks q) w t gs (runT P (crowd gs w sl) (base+κ)):=by
 have hN:base+κ<gs.size:=(Array.getElem?_eq_some_iff.1 hg).1;have hb:=h.b1;obtain⟨_,pw,wr,qt,pl⟩:=hs;have hsat:=h.wt.vi.sat (base+κ);have hselfH:upd H (base+κ) (H (base+κ))=H:=upd_eq _ _;have hlt:=(List.getElem?_eq_some_iff.1 hκ).1;have hDκ:D κ=T.did:=by rw[h.dd κ,hκ];rfl
 cases hp:T.plain with
 | true=>
   obtain⟨hok,hfit⟩:=h.inv.ok hκ;obtain⟨T',s',g',w',es,hm,hst,htu,hqe,hra,hrun,hq1,hq2,hq3⟩:=pl hp w s hsat h.wt.sh hok hfit;obtain⟨k2,k3⟩:=mv_keeps hp hm;have hwt:=h.wt.stopW (fn:=g.frame.fn) (pos:=g.frame.place) h.ne hb hκ hN hp hm htu hqe;have hdd:=h.dd_set hκ k2;have hQ:s'.q≤s.q∨(mayWake P g=true∧g'.status=.running):=by
     cases hra':T.raises with
     | true=> exact .inr ⟨hra hra',hrun⟩
     | false=> exact .inl (mv_low hra' hm)
   by_cases hquit:T'=.quit
   · obtain⟨q',hq'⟩:=hq1 hquit;refine h.moveW hκ hg hk hm hst (H':=H (base+κ)) (D':=D) (ρ':=.stop) (q':=q') (by rw[hselfH];exact hwt) (.quit hquit ?_) hdd hQ;have:Deaf (t++MemOp.ofEvents (base+κ) g.frame.fn g.frame.place es) (base+κ)=1:=by
       rw[Deaf_own,h.wt.dfw κ T hκ (by rintro rfl;cases hp),hqe.net,hquit];rfl
     rw[this];exact hq'
   · cases hmu:T'.mute with
     | true=>
       obtain⟨n,hn⟩:=hq2 hquit hmu;exact h.moveW hκ hg hk hm hst (H':=H (base+κ)) (D':=D) (ρ':=natRank n) (q':=q (base+κ)) (by rw[hselfH];exact hwt) (.quiet n ⟨hquit,hmu⟩ rfl hn) hdd hQ
     | false=>
       obtain⟨ρ',hρ'⟩:=(hq3 hmu).rank;exact h.moveW hκ hg hk hm hst (H':=H (base+κ)) (D':=D) (ρ':=ρ') (q':=q (base+κ)) (by rw[hselfH];exact hwt) (.walk hmu hρ') hdd hQ
 | false=>
   have hcase:T=.pw∨T=.wr∨T=.quit:=by cases T <;> simp[Th.plain] at hp <;> simp
   rcases hcase with rfl|rfl|rfl
   · obtain⟨⟨o,h1,h2⟩,_,_⟩:=h.wt.free;obtain⟨g',w',o',es,hst,how,hG,hT'⟩:=pw rfl D o hDκ h2 w hsat h1;obtain⟨ρ',hρ'⟩:=hT'.rank;have hwt:=h.wt.ownW (fn:=g.frame.fn) (pos:=g.frame.place) h.ne hκ hN how hG;refine h.moveW hκ hg hk (T':=.wr) (s':=s) (by simp[Th.mv]) hst (H':=H (base+κ)) (by rw[hselfH];exact hwt) (q':=q (base+κ)) (.walk rfl hρ') (fun κ'=> ?_) (.inl (Nat.le_refl _));by_cases e:κ'=κ
     · subst e;rw[List.getElem?_set_self hlt];simp[also,Th.did]
     · rw[List.getElem?_set_ne (Ne.symm e),←h.dd κ',also_ne e]
   · obtain⟨g',hst,n,hn⟩:=wr rfl w hsat;have hwt:=h.wt.mute (fn:=g.frame.fn) (pos:=g.frame.place) h.ne hκ hN;exact h.moveW hκ hg hk (T':=.wk) (s':=s) (by simp[Th.mv]) hst (H':=H (base+κ)) (D':=D) (ρ':=natRank n) (q':=q (base+κ)) (by rw[hselfH];exact hwt) (.quiet n ⟨by simp,rfl⟩ rfl hn) (h.dd_set hκ rfl) (.inl (Nat.le_refl _))
   · exact(qt rfl).elim
theorem PI.worker(h:PI P X Fin B base os0 gs w t ths m s H ks rks q D){κ:Nat}{T:Th}{g:Goroutine}(hκ:ths[κ]? =some T)(hg:gs[base+κ]? =some g)(hr:g.status=.running):
   Goes P X Fin B base os0 (PI.meas X gs ths m s rks q) w t gs (runT P (crowd gs w sl) (base+κ)):=by
 have hN:base+κ<gs.size:=(Array.getElem?_eq_some_iff.1 hg).1;have hlt:=(List.getElem?_eq_some_iff.1 hκ).1;have hb:=h.b1;have hact:Act base gs.size (base+κ):=.inr ⟨by omega,hN⟩;have hi0:(base+κ==0)=false:=by simp;omega
 obtain⟨g₁,ρ,h1,h2,hsit⟩:=h.si.work κ T hκ;rw[hg] at h1;cases h1
 have hkp:=h.pos _ hact;obtain⟨k,hk⟩:∃k,ks (base+κ)=k+1:=⟨ks (base+κ)-1,by omega⟩
 have hdep:=h.depth _ hact;rw[hk] at hsit hdep;have hself:upd ks (base+κ) (ks (base+κ))=ks:=upd_eq _ _;have hselfq:upd q (base+κ) (q (base+κ))=q:=upd_eq _ _;have hselfH:upd H (base+κ) (H (base+κ))=H:=upd_eq _ _
 -- a step that leaves the automaton where it is
 have stay:∀(g':Goroutine) (w':World) (es:Array Event) (H':View) (q':Nat) (ρ':Rank),stepG P false g w=.go g' w' es→
     WT X B base gs.size os0 w' (t++MemOp.ofEvents (base+κ) g.frame.fn g.frame.place es) ths m s (upd H (base+κ) H') D→
     SitW P X κ T (k+1) H' ρ' q' (Deaf (t++MemOp.ofEvents (base+κ) g.frame.fn g.frame.place es) (base+κ)) g'→
     LtMeas (PI.meas X (stepd P gs (base+κ) g g' w') ths m s (rks.set (base+κ) ρ') (upd q (base+κ) q')) (PI.meas X gs ths m s rks q)→
     Goes P X Fin B base os0 (PI.meas X gs ths m s rks q) w t gs (runT P (crowd gs w sl) (base+κ)):=by
   intro g' w' es H' q' ρ' hst hwt hs' hlt';have hsets:ths.set κ T=ths:=by
     apply List.ext_getElem?
     intro j;by_cases e:κ=j
     · subst e;rw[List.getElem?_set_self hlt,hκ]
     · rw[List.getElem?_set_ne e]
   have hsi:=h.si.worker (w':=w') (g:=g) (g':=g') (T':=T) (H':=H') (k':=k+1) (q':=q') (ρ':=ρ') (s':=s) hb h.pos hκ (deaf_others ofEvents_g) (.inl (Nat.le_refl _)) hs';rw[hsets] at hsi;refine .inl ⟨stepd P gs (base+κ) g g' w',w',sl,MemOp.ofEvents (base+κ) g.frame.fn g.frame.place es,ths,m,s,upd H (base+κ) H',upd ks (base+κ) (k+1),rks.set (base+κ) ρ',upd q (base+κ) q',D,runT_crowd_go hg (by rw[hi0];exact hst),⟨h.inv,hb,h.ne,h.dd,fun j hj=> ?_,?_,hsi⟩,hlt'⟩
   · rw[stepd_size] at hj;by_cases e:j=base+κ
     · subst e;rw[upd_same];exact hdep
     · rw[upd_ne _ _ e];exact h.depth j hj
   · rw[stepd_size];exact hwt
 cases hsit with
 | quit hT hq=>
   cases hqq:q (base+κ) with
   | zero=> rw[hqq] at hq;rw[hq.1] at hr;cases hr
   | succ q'=>
     rw[hqq] at hq;rcases hq with ⟨hf,_⟩|⟨_,g',es,hmu,hst,hq'⟩
     · rw[hf] at hr;cases hr
     · have hrk:rks.set (base+κ) ρ=rks:=by
         apply List.ext_getElem?
         intro j;by_cases e:base+κ=j
         · subst e;rw[List.getElem?_set_self (by rw[h.si.rsz];exact hN),h2]
         · rw[List.getElem?_set_ne e]
       have hwt:=h.wt.leave (i:=base+κ) (fn:=g.frame.fn) (pos:=g.frame.place) (by omega) hN hmu fun κ' T' hκ' e=> by
         obtain rfl:κ'=κ:=by omega
         rw[hκ] at hκ';cases hκ'
         exact hT
       refine stay g' w es (H (base+κ)) q' ρ (hst w) (by rw[hselfH];exact hwt) (.quit hT (by rw[Deaf_own];exact hq')) ?_;rw[hrk];unfold PI.meas;rw[stepd_size];refine lt_q ?_;have:=sumTo_upd (f:=q) q' (fun a=> a) (i:=base+κ) (j:=gs.size) hN;have e:sumTo gs.size (fun a=> upd q (base+κ) q' a)=sumTo gs.size (upd q (base+κ) q'):=rfl;have e2:sumTo gs.size (fun a=> q a)=sumTo gs.size q:=rfl;omega
 | quiet n hT hρ hgo=>
   cases n with
   | succ n=>
     obtain⟨_,g',hst,hgo'⟩:=hgo;refine stay g' w #[] (H (base+κ)) (q (base+κ)) (natRank n) (hst w) (by rw[hselfH];simpa [MemOp.ofEvents] using h.wt) (.quiet n hT rfl hgo') ?_;unfold PI.meas;refine lt_rk (LtL.set h2 ?_);rw[hρ];exact natRank_lt n
   | zero=> exact h.stopW hκ hg hk hgo
 | walk hT hgo=>
   cases ρ with
   | stop=> exact h.stopW hκ hg hk hgo
   | step f=>
     obtain⟨_,hst⟩:=hgo;obtain⟨g',w',es,H',h3,h4,h5⟩:=hst w (h.wt.vi.sat _) ⟨h.wt.cb,_,h.wt.sh⟩;refine stay g' w' es H' (q (base+κ)) (f w) h3 (h.wt.walk h.ne hact hN h4 fun κ' T' hκ' e=> ?_) (.walk hT h5) ?_
     · obtain rfl:κ'=κ:=by omega
       rw[hκ] at hκ';cases hκ'
       exact hT
     · unfold PI.meas;exact lt_rk (LtL.set h2 (.step f w))
   | phase f=>
     obtain⟨_,hp,_⟩:=hgo;exact hp.elim
end
end Go.RL
section
namespace Go.RL
open Go.Conc Go.ConcN Go.RL.Au
open Go.ConcR (stA smA)
open Go.ConcM (muA OsLater)
attribute [local irreducible] mu
section
variable {P:Program}{X:Fk}{Fin:Goroutine→Prop}{B:View}{base:Nat}{os0:Os0}{gs:Array Goroutine}{w:World}{t:Trace}{ths:List Th}{m:Mn}{s:Sh}{H:Nat→View}{ks:Nat→Nat}{rks:List Rank}{q:Nat→Nat}{D:Nat→Bool}
variable {sl:Option (Nat×Nat)}
theorem PI.leaver(h:PI P X Fin B base os0 gs w t ths m s H ks rks q D){i:Nat}{g:Goroutine}(h0:0<i)(hib:i<base)(hg:gs[i]? =some g)(hr:g.status=.running):
   Goes P X Fin B base os0 (PI.meas X gs ths m s rks q) w t gs (runT P (crowd gs w sl) i):=by
 have hN:i<gs.size:=(Array.getElem?_eq_some_iff.1 hg).1;have hi0:(i==0)=false:=by simp;omega
 obtain⟨g₁,h1,hq⟩:=h.si.leav i h0 hib;rw[hg] at h1;cases h1
 cases hqq:q i with
 | zero=> rw[hqq] at hq;rw[hq.1] at hr;cases hr
 | succ q'=>
   rw[hqq] at hq;rcases hq with ⟨hf,_⟩|⟨_,g',es,hmu,hst,hq'⟩
   · rw[hf] at hr;cases hr
   · have hwt:=h.wt.leave (i:=i) (fn:=g.frame.fn) (pos:=g.frame.place) h0 hN hmu fun κ' T' hκ' e=> by omega
     have hsi:=h.si.leaver (w':=w) (g:=g) (g':=g') (q':=q') (df':=Deaf (t++MemOp.ofEvents i g.frame.fn g.frame.place es)) h.pos h0 hib (deaf_others ofEvents_g) (by rw[Deaf_own];exact hq');refine .inl ⟨stepd P gs i g g' w,w,sl,_,ths,m,s,H,ks,rks,upd q i q',D,runT_crowd_go hg (by rw[hi0];exact hst w),⟨h.inv,h.b1,h.ne,h.dd,by rw[stepd_size];exact h.depth,by rw[stepd_size];exact hwt,hsi⟩,?_⟩;unfold PI.meas;rw[stepd_size];refine lt_q ?_;have:=sumTo_upd (f:=q) q' (fun a=> a) (i:=i) (j:=gs.size) hN;have e:sumTo gs.size (fun a=> upd q i q' a)=sumTo gs.size (upd q i q'):=rfl;have e2:sumTo gs.size (fun a=> q a)=sumTo gs.size q:=rfl;omega
theorem PI.moveM(h:PI P X Fin B base os0 gs w t ths m s H ks rks q D){k:Nat}{m':Mn}{s':Sh}{g g':Goroutine}{w':World}{es:Array Event}(hg:gs[0]? =some g)(hk:ks 0=k+1)
   (hm:(m',s')∈m.mv s) (hst:stepG P true g w=.go g' w' es) (hwt:WT X B base gs.size os0 w' (t++MemOp.ofEvents 0 g.frame.fn g.frame.place es) ths m' s' H D)
   (hs:T (Mw P true X.ok) (MS P X Fin k m' ths.length) (H 0) g'):
   Goes P X Fin B base os0 (PI.meas X gs ths m s rks q) w t gs (runT P (crowd gs w sl) 0):=by
 have hb:=h.b1;have hmu:=mu_main h.inv hm;have hdep:=h.depth 0 (.inl rfl);rw[hk] at hdep;obtain⟨ρ',hρ'⟩:=hs.rank;have hsi:=h.si.starter (w':=w') (g:=g) (g':=g') (m':=m') (H':=H 0) (k':=k) (ρ':=ρ') (s':=s') (df':=Deaf (t++MemOp.ofEvents 0 g.frame.fn g.frame.place es)) hb h.pos (deaf_others ofEvents_g) (.walk hρ');rw[upd_eq] at hsi;refine .inl ⟨stepd P gs 0 g g' w',w',sl,_,ths,m',s',H,_,_,q,D,runT_crowd_go hg hst,⟨h.inv.main hm,hb,h.ne,h.dd,fun j hj=> ?_,?_,hsi⟩,lt_mu hmu⟩
 · rw[stepd_size] at hj;by_cases e:j=0
   · subst e;rw[upd_same];omega
   · rw[upd_ne _ _ e];exact Nat.lt_trans hmu (h.depth j hj)
 · rw[stepd_size];exact hwt
theorem get_push {gs:Array Goroutine}{g' ch x:Goroutine}{j:Nat}(hj:gs[j]? =some x)(h0:j≠0):((gs.setIfInBounds 0 g').push ch)[j]? =some x:=by
 have hlt:=(Array.getElem?_eq_some_iff.1 hj).1;rw[Array.getElem?_push];simp only[Array.size_setIfInBounds];rw[if_neg (by omega),Array.getElem?_setIfInBounds_ne (Ne.symm h0),hj]
theorem PI.moveF(h:PI P X Fin B base os0 gs w t ths .go s H ks rks q D){k:Nat}{m':Mn}{g g' ch:Goroutine}(hg:gs[0]? =some g)(hk:ks 0=k+1)(hinv:Inv X.n (ths++[.pw]) m' s)(hmu:mu X.n (ths++[.pw]) m' s<mu X.n ths .go s)(hd:m'.deaf=0)
   (hst:stepG P true g w=.spawn g' ch w #[]) (hT:T (Mw P true X.ok) (MS P X Fin k m' (ths.length+1)) (ro (H 0)) g') (hC:T (Mw P false X.ok) (WS P X ths.length k .pw) (ro (H 0)) ch):
   Goes P X Fin B base os0 (PI.meas X gs ths .go s rks q) w t gs (runT P (crowd gs w sl) 0):=by
 have hN:0<gs.size:=(Array.getElem?_eq_some_iff.1 hg).1;have hb:=h.b1;have hdep:=h.depth 0 (.inl rfl);have hsz:=h.si.size;obtain⟨x,hx⟩:∃x:MemOp,x= { g:=0,fn:=g.frame.fn,pos:=g.frame.place,act:=.go gs.size }:=⟨_,rfl⟩
 obtain⟨y,hy⟩:∃y:MemOp,y= { g:=gs.size,fn:=ch.frame.fn,pos:=g.frame.place,act:=.start }:=⟨_,rfl⟩
 have hx':x.g=0∧x.act=.go gs.size:=by rw[hx];exact⟨rfl,rfl⟩
 have hy':y.g=gs.size∧y.act=.start:=by rw[hy];exact⟨rfl,rfl⟩
 have hwt:=h.wt.fork (m':=m') hb hsz hd hx' hy';have hrun':=runT_crowd_spawn (P:=P) (sl:=sl) hg hst;have hops:((MemOp.ofEvents 0 g.frame.fn g.frame.place #[]).push { g:=0,fn:=g.frame.fn,pos:=g.frame.place,act:=.go gs.size } |>.push { g:=gs.size,fn:=ch.frame.fn,pos:=g.frame.place,act:=.start })=#[x,y]:=by
   rw[hx,hy];simp[MemOp.ofEvents]
 rw[hops] at hrun';rw[hk] at hdep;obtain⟨ρm,hρm⟩:=hT.rank;obtain⟨ρc,hρc⟩:=hC.rank;have hsz':((gs.setIfInBounds 0 g').push ch).size=gs.size+1:=by simp
 have hdf:∀j,Deaf (t ++ #[x,y]) j=Deaf t j:=fun j=> Deaf_still t j _ fun op hop=> by
   simp only[List.mem_toArray,List.mem_cons,List.not_mem_nil,or_false] at hop;rcases hop with rfl|rfl
   · rw[hx'.2];simp
   · rw[hy'.2];simp
 have hsits:Sits P X Fin base ((gs.setIfInBounds 0 g').push ch) (Deaf (t ++ #[x,y])) (ths++[.pw]) m' s (upd (upd H 0 (ro (H 0))) gs.size (ro (H 0))) (upd (upd ks 0 k) gs.size k) ((rks.set 0 ρm)++[ρc]) q:=by
   refine⟨by rw[hsz',List.length_append];simp;omega,by rw[hsz',List.length_append,List.length_set,h.si.rsz];simp,⟨g',ρm,?_,?_,?_⟩,fun κ T hκ=> ?_,fun i h0 hib=> ?_⟩
   · rw[Array.getElem?_push];simp only[Array.size_setIfInBounds];rw[if_neg (by omega)];simp[hN]
   · rw[List.getElem?_append_left (by rw[List.length_set,h.si.rsz];exact hN),List.getElem?_set_self (by rw[h.si.rsz];exact hN)]
   · rw[upd_ne _ _ (by omega),upd_same,upd_ne _ _ (by omega),upd_same];rw[List.length_append];exact .walk hρm
   · rw[List.getElem?_append] at hκ;split at hκ
     · obtain⟨g0,ρ0,h3,h4,h5⟩:=h.si.work κ T hκ;have hne:base+κ≠gs.size:=by omega
       refine⟨g0,ρ0,get_push h3 (by omega),?_,?_⟩
       · have hl:=(List.getElem?_eq_some_iff.1 h4).1;rw[List.getElem?_append_left (by rw[List.length_set];exact hl),List.getElem?_set_ne (by omega)];exact h4
       · rw[upd_ne _ _ hne,upd_ne _ _ (by omega),upd_ne _ _ hne,upd_ne _ _ (by omega),hdf];exact h5
     · cases hz:κ-ths.length with
       | succ z=> rw[hz] at hκ;cases hκ
       | zero=>
         rw[hz] at hκ;cases hκ
         have he:base+κ=gs.size:=by omega
         refine⟨ch,ρc,?_,?_,?_⟩
         · rw[he,Array.getElem?_push];simp
         · rw[he,List.getElem?_append_right (by rw[List.length_set,h.si.rsz];omega),List.length_set,h.si.rsz];simp
         · rw[he,upd_same,upd_same];have:κ=ths.length:=by omega
           subst this;exact .walk rfl hρc
   · obtain⟨g0,h3,h4⟩:=h.si.leav i h0 hib;exact⟨g0,get_push h3 (by omega),by rw[hdf];exact h4⟩
 refine .inl ⟨(gs.setIfInBounds 0 g').push ch,w,sl,#[x,y],ths++[.pw],m',s,upd (upd H 0 (ro (H 0))) gs.size (ro (H 0)),upd (upd ks 0 k) gs.size k,(rks.set 0 ρm)++[ρc],q,D,hrun',⟨hinv,hb,h.ne,fun κ=> ?_,fun j hj=> ?_,by rw[hsz'];exact hwt,hsits⟩,lt_mu hmu⟩
 · rw[h.dd κ,List.getElem?_append];split
   · rfl
   · rename_i hge
     rw[List.getElem?_eq_none (by omega)];cases hz:κ-ths.length with
     | zero=> rfl
     | succ z=> rfl
 · rw[hsz'] at hj;by_cases e:j=gs.size
   · subst e;rw[upd_same];exact Nat.lt_of_lt_of_le hmu (Nat.le_of_lt_succ hdep)
   · rw[upd_ne _ _ e];by_cases e0:j=0
     · subst e0;rw[upd_same];exact Nat.lt_of_lt_of_le hmu (Nat.le_of_lt_succ hdep)
     · rw[upd_ne _ _ e0];exact Nat.lt_trans hmu (h.depth j (hj.imp id fun⟨h1,h2⟩=> ⟨h1,by omega⟩))
theorem PI.stopM(h:PI P X Fin B base os0 gs w t ths m s H ks rks q D){k:Nat}{g:Goroutine}{ρ:Rank}(hg:gs[0]? =some g)(hr:g.status=.running)(hk:ks 0=k+1)(h2:rks[0]? =some ρ)(hρ:ρ=.stop)
   (hs:MS P X Fin (k+1) m ths.length (H 0) g):
   Goes P X Fin B base os0 (PI.meas X gs ths m s rks q) w t gs (runT P (crowd gs w sl) 0):=by
 have hN:0<gs.size:=(Array.getElem?_eq_some_iff.1 hg).1;have hb:=h.b1;obtain⟨hrun,go,kr,wm,aq,rt,pl⟩:=hs;have hsat:=h.wt.vi.sat 0;have hdep:=h.depth 0 (.inl rfl);cases hp:m.plain with
 | true=>
   obtain⟨hok,hfit⟩:=h.inv.mok;rcases pl hp w s hsat h.wt.sh hok hfit with ⟨hnil,hst⟩|⟨m',s',g',w',es,hm,hst,htu,hqe,hq3⟩
   · obtain⟨rfl,hQ⟩:=mn_nil hp hnil;have hrk:rks.set 0 .stop=rks:=by
       apply List.ext_getElem?
       intro j;by_cases e:0=j
       · subst e;rw[List.getElem?_set_self (by rw[h.si.rsz];exact hN),h2,hρ]
       · rw[List.getElem?_set_ne e]
     have hsi:=h.si.starter (w':=w) (g:=g) (g':= { g with status:=.blocked }) (m':=.ws) (H':=H 0) (k':=k+1) (ρ':=.stop) (s':=s) (df':=Deaf t) hb h.pos (fun _ _=> rfl) (.wait g ⟨rfl,hQ,rfl⟩ rfl ⟨hrun,go,kr,wm,aq,rt,pl⟩);rw[hrk,upd_eq,show upd ks 0 (k+1)=ks by rw[←hk];exact upd_eq _ _] at hsi;refine .inl ⟨stepd P gs 0 g { g with status:=.blocked } w,w,sl,_,ths,.ws,s,H,ks,rks,q,D,runT_crowd_go hg hst,⟨h.inv,hb,h.ne,h.dd,by rw[stepd_size];exact h.depth,?_,?_⟩,?_⟩
     · rw[stepd_size];simpa [MemOp.ofEvents] using h.wt
     · simpa [MemOp.ofEvents] using hsi
     · unfold PI.meas;rw[stepd_size];exact lt_run (runs_block hg hr rfl)
   · exact h.moveM hg hk hm hst (h.wt.stopM h.ne hb hN htu hqe) hq3
 | false=>
   have hcase:m=.kr∨m=.go∨m=.wm∨m=.aq∨m=.ret:=by cases m <;> simp[Mn.plain] at hp <;> simp
   rcases hcase with rfl|rfl|rfl|rfl|rfl
   · obtain⟨g',hst,hT⟩:=kr rfl w hsat;exact h.moveM hg hk (m':=.ke) (s':=s) (by simp[Mn.mv]) hst (h.wt.said h.ne hb hN (.inl rfl) rfl) hT
   · obtain⟨g',ch,hst,hT,hC⟩:=go rfl w hsat;exact h.moveF hg hk (h.inv.fork) (mu_fork h.inv (by split <;> simp[Mn.wt])) (by split <;> rfl) hst hT hC
   · obtain⟨g',hst,hT⟩:=wm rfl w hsat;exact h.moveM hg hk (m':=.ws) (s':=s) (by simp[Mn.mv]) hst (h.wt.said h.ne hb hN (.inr rfl) rfl) hT
   · obtain⟨g',hst,hF⟩:=aq rfl w hsat;exact .inr ⟨_,sl,g,g',ths,s,H,ks,rks,q,D,hg,runT_crowd_go hg hst,rfl,hF,h⟩
   · exact(rt rfl).elim
theorem PI.starter(h:PI P X Fin B base os0 gs w t ths m s H ks rks q D){g:Goroutine}(hg:gs[0]? =some g)(hr:g.status=.running):
   Goes P X Fin B base os0 (PI.meas X gs ths m s rks q) w t gs (runT P (crowd gs w sl) 0):=by
 have hN:0<gs.size:=(Array.getElem?_eq_some_iff.1 hg).1;have hb:=h.b1;obtain⟨g₁,ρ,h1,h2,hsit⟩:=h.si.main;rw[hg] at h1;cases h1
 have hkp:=h.pos 0 (.inl rfl);obtain⟨k,hk⟩:∃k,ks 0=k+1:=⟨ks 0-1,by omega⟩
 have hdep:=h.depth 0 (.inl rfl);rw[hk] at hsit hdep;cases hsit with
 | wait g₀ hT hgg hw=> rw[hgg] at hr;cases hr
 | walk hgo=>
   cases ρ with
   | stop=> exact h.stopM hg hr hk h2 rfl hgo
   | phase f=> obtain⟨_,hp,_⟩:=hgo;exact hp.elim
   | step f=>
     obtain⟨_,hst⟩:=hgo;obtain⟨g',w',es,H',h3,h4,h5⟩:=hst w (h.wt.vi.sat _) ⟨h.wt.cb,_,h.wt.sh⟩;have hwt:=h.wt.walk (i:=0) (fn:=g.frame.fn) (pos:=g.frame.place) h.ne (.inl rfl) hN h4 fun κ' T' hκ' e=> by omega
     have hsi:=h.si.starter (w':=w') (g:=g) (g':=g') (m':=m) (H':=H') (k':=k+1) (ρ':=f w) (s':=s) (df':=Deaf (t++MemOp.ofEvents 0 g.frame.fn g.frame.place es)) hb h.pos (deaf_others ofEvents_g) (.walk h5);refine .inl ⟨stepd P gs 0 g g' w',w',sl,_,ths,m,s,upd H 0 H',upd ks 0 (k+1),rks.set 0 (f w),q,D,runT_crowd_go hg h3,⟨h.inv,hb,h.ne,h.dd,fun j hj=> ?_,by rw[stepd_size];exact hwt,hsi⟩,lt_rk (LtL.set h2 (.step f w))⟩;rw[stepd_size] at hj;by_cases e:j=0
     · subst e;rw[upd_same];exact hdep
     · rw[upd_ne _ _ e];exact h.depth j hj
theorem PI.someone(h:PI P X Fin B base os0 gs w t ths m s H ks rks q D):∃(i:Nat) (g:Goroutine),gs[i]? =some g∧g.status=.running:=by
 refine Classical.byContradiction fun hno=> ?_;have hnr:∀(i:Nat) g,gs[i]? =some g→g.status≠ .running:=fun i g hi hr=> hno ⟨i,g,hi,hr⟩;obtain⟨g,ρ,h1,h2,hsit⟩:=h.si.main;have hkp:=h.pos 0 (.inl rfl);obtain⟨k,hk⟩:∃k,ks 0=k+1:=⟨ks 0-1,by omega⟩
 rw[hk] at hsit;cases hsit with
 | walk hgo=> exact hnr 0 g h1 (hgo.run (fun _ _ _ h=> h) fun _ _ h=> h.1.1)
 | wait g₀ hT hgg hw=>
   obtain⟨rfl,hq0,_⟩:=hT;obtain⟨κ,T,hκ,hT⟩:=h.inv.live (by simp) (by simp) (by simp[Mn.mv,hq0]);obtain⟨g',ρ',h3,h4,hs'⟩:=h.si.work κ T hκ;have hN:=(Array.getElem?_eq_some_iff.1 h3).1;have hkp':=h.pos (base+κ) (.inr ⟨by omega,hN⟩);obtain⟨k',hk'⟩:∃k,ks (base+κ)=k+1:=⟨ks (base+κ)-1,by omega⟩
   rw[hk'] at hs';cases hs' with
   | quit hT' _=> subst hT';exact hT rfl
   | quiet n hT' hρ hgo=> exact hnr _ g' h3 (hgo.run fun _ h=> h.1.1)
   | walk hT' hgo=> exact hnr _ g' h3 (hgo.run (fun _ _ _ h=> h) fun _ _ h=> h.1.1)
theorem PI.awake(h:PI P X Fin B base os0 gs w t ths m s H ks rks q D):∀g∈gs,awake g:=by
 intro g hg tm;obtain⟨i,hi,rfl⟩:=Array.mem_iff_getElem.1 hg;have hi':=Array.getElem?_eq_getElem hi;have key:gs[i].status=.running∨gs[i].status=.finished∨gs[i].status=.blocked:=by
   by_cases e0:i=0
   · subst e0;obtain⟨g,ρ,h1,h2,hsit⟩:=h.si.main;have hkp:=h.pos 0 (.inl rfl);obtain⟨k,hk⟩:∃k,ks 0=k+1:=⟨ks 0-1,by omega⟩
     rw[hk] at hsit;rw[h1] at hi';cases hi'
     exact hsit.status.imp id .inr
   · rcases Nat.lt_or_ge i base with hlt|hge
     · obtain⟨g,h1,hq⟩:=h.si.leav i (by omega) hlt;rw[h1] at hi';cases hi'
       exact hq.status.imp id .inl
     · have hsz:=h.si.size;obtain⟨T,hT⟩:∃T,ths[i-base]? =some T:=⟨_,List.getElem?_eq_getElem (by omega)⟩
       obtain⟨g,ρ,h1,h2,hsit⟩:=h.si.work _ T hT;rw[show base+(i-base)=i by omega] at h1 hsit;have hkp:=h.pos i (.inr ⟨hge,hi⟩);obtain⟨k,hk⟩:∃k,ks i=k+1:=⟨ks i-1,by omega⟩
       rw[hk] at hsit;rw[h1] at hi';cases hi'
       exact hsit.status.imp id .inl
 rcases key with e|e|e <;> rw[e] <;> simp
theorem PI.step(h:PI P X Fin B base os0 gs w t ths m s H ks rks q D):∃d,Goes P X Fin B base os0 (PI.meas X gs ths m s rks q) (w.at d) t gs (stepT P (crowd gs w sl)):=by
 obtain⟨i,g,d,sl',hg,hrun,hstep⟩:=crowd_pick (P:=P) (w:=w) (sl:=sl) h.awake h.someone;rw[hstep];refine⟨d,?_⟩;have h':=h.at d;by_cases e0:i=0
 · subst e0;exact h'.starter hg hrun
 · rcases Nat.lt_or_ge i base with hlt|hge
   · exact h'.leaver (by omega) hlt hg hrun
   · have hsz:=h.si.size;have hN:=(Array.getElem?_eq_some_iff.1 hg).1;obtain⟨T,hT⟩:∃T,ths[i-base]? =some T:=⟨_,List.getElem?_eq_getElem (by omega)⟩
     have:=h'.worker (sl:=sl') hT (g:=g) (by rw[show base+(i-base)=i by omega];exact hg) hrun
     rwa [show base+(i-base)=i by omega] at this
end
end Go.RL
end
section
namespace Go.RL
open Go.Conc Go.ConcN Go.RL.Au
open Go.ConcR (stA smA)
open Go.ConcM (muA OsLater)
attribute [local irreducible] mu
structure AI(P:Program)(H:View)(os0:Os0)(gs:Array Goroutine)(w:World)(t:Trace)(q:Nat→Nat):Prop where
 pos:0<gs.size
 sat:Sat H w
 nr:∀said,¬Race said t
 kn:∀i a,touchAt t i=some a→a.kind=.plain→Knows t 0 i
 np:∀i a b,touchAt t i=some a→a.kind≠ .plain→lb a.loc=some b→H b=none
 np2:∀(i:Nat) op a,t[i]? =some op→op.act.touch? =some a→a.kind≠ .plain→(a.kind=.said→op.g=0)∧(a.kind=.atomic→op.g≠0→¬t.heard i)
 bd:∀i a b,touchAt t i=some a→lb a.loc=some b→b<w.heap.size
 rel:∀a,NoRelease a t
 gb:∀(i:Nat) op,t[i]? =some op→op.g<gs.size
 mem:∀i a,touchAt t i=some a→∃b,lb a.loc=some b
 df0:Deaf t 0=0
 leav:∀i,0<i→i<gs.size→∃g,gs[i]? =some g∧QuitsD P (q i) (Deaf t i) g
 os:Kpt os0 w
section
variable {P:Program}{H:View}{os0:Os0}{gs:Array Goroutine}{w w':World}{t:Trace}{q:Nat→Nat}
theorem AI.at(h:AI P H os0 gs w t q)(d:Nat):AI P H os0 gs (w.at d) t q:=⟨h.pos,h.sat,h.nr,h.kn,h.np,h.np2,h.bd,h.rel,h.gb,h.mem,h.df0,h.leav,h.os⟩
theorem AI.walk(h:AI P H os0 gs w t q){g g':Goroutine}{H':View}{es:Array Event}{fn:FuncId}{pos:String}(ht:Trans H w H' w' es):AI P H' os0 (stepd P gs 0 g g' w') w' (t++MemOp.ofEvents 0 fn pos es) q:=by
 obtain⟨hop,hdf⟩:=evOk_op (X:=⟨0,0,0,0,fun _ _=> True⟩) (g:=0) (fn:=fn) (pos:=pos) (t:=t) ht.ev;have hd:∀j,Deaf (t++MemOp.ofEvents 0 fn pos es) j=Deaf t j:=fun j=> Deaf_still t j _ hdf;have htouch:∀op∈MemOp.ofEvents 0 fn pos es,∀x,op.act.touch? =some x→x.kind=.plain∧∃b f o,lb x.loc=some b∧H' b=some (f,o):=by
   rw[ofEvents_eq];intro op hopm x hx;obtain⟨e,he,rfl⟩:=Array.mem_map.1 hopm;have hk:=ht.ev e he;obtain⟨loc,wr,sy⟩:=e;unfold EvOk at hk;cases loc with
   | cell a=>
     obtain⟨hs,f,o,h1,h2⟩:=hk;simp only at hs;subst hs;cases wr <;> simp[MemAct.ofEvent,MemAct.touch?] at hx <;> subst hx <;> exact⟨rfl,_,f,o,rfl,h1⟩
   | obj r=>
     obtain⟨hs,f,o,h1,h2⟩:=hk;simp only at hs;subst hs;cases wr <;> simp[MemAct.ofEvent,MemAct.touch?] at hx <;> subst hx <;> exact⟨rfl,_,f,o,rfl,h1⟩
   | mark m=>
     cases m <;> first
       | (simp[okMark] at hk;done)
       | simp[MemAct.ofEvent,MemAct.touch?] at hx
   | _=> exact hk.elim
 have old:∀i a b f o,touchAt t i=some a→lb a.loc=some b→H' b=some (f,o)→∃o',H b=some (f,o'):=by
   intro i a b f o ha hb hx;rcases ht.ext b f o hx with h1|⟨_,hle⟩
   · exact h1
   · have:=h.bd i a b ha hb;omega
 have npk:∀i a b,touchAt t i=some a→a.kind≠ .plain→lb a.loc=some b→H' b=none:=fun i a b ha hk hb=> by
   cases hx:H' b with
   | none=> rfl
   | some x=>
     obtain⟨o',h4⟩:=old i a b x.1 x.2 ha hb hx;rw[h.np i a b ha hk hb] at h4;cases h4
 refine⟨by rw[stepd_size];exact h.pos,ht.sat,fun said=> ?_,fun i a ha hk=> ?_,fun i a b ha hk hb=> ?_,fun i op a hopi ha hk=> ?_,fun i a b ha hb=> ?_,fun a=> (h.rel a).app fun op hopm=> hop.rel op hopm a,fun i op hopi=> ?_,fun i a ha=> ?_,by rw[hd];exact h.df0,fun i h0 hi=> ?_,h.os.trans ⟨ht.os,ht.out⟩⟩
 · refine noRace_append (h.nr said) hop.own fun i a ha op hopm b hb hc=> ?_;obtain⟨hloc,hmem,_,_⟩:=hc;obtain⟨_,blk,f,o,h1,h2⟩:=htouch op hopm b hb;refine h.kn i a ha (Classical.byContradiction fun hne=> ?_);rw[npk i a blk ha hne (by rw[hloc];exact h1)] at h2;cases h2
 · rcases touch_cases ha with ⟨hi,ha'⟩|⟨hi,op,hopm,hop',hx⟩
   · exact(h.kn i a ha' hk).app _
   · have:=knows_own hop'
     rwa [hop.own op hopm] at this
 · rcases touch_cases ha with ⟨hi,ha'⟩|⟨hi,op,hopm,hop',hx⟩
   · exact npk i a b ha' hk hb
   · exact absurd (htouch op hopm a hx).1 hk
 · rcases getElem?_append_cases hopi with ⟨hi,hop'⟩|⟨hi,hopu⟩
   · obtain⟨h1,h2⟩:=h.np2 i op a hop' ha hk;exact⟨h1,fun e e'=> by rw[heard_old hi];exact h2 e e'⟩
   · exact absurd (htouch op hopu a ha).1 hk
 · rcases touch_cases ha with ⟨hi,ha'⟩|⟨hi,op,hopm,hop',hx⟩
   · exact Nat.lt_of_lt_of_le (h.bd i a b ha' hb) ht.size
   · obtain⟨_,b',f,o,h1,h2⟩:=htouch op hopm a hx;rw[h1] at hb;cases hb
     exact ht.sat.lt h2
 · rw[stepd_size];rcases getElem?_append_cases hopi with ⟨hi,hop'⟩|⟨hi,hopu⟩
   · exact h.gb i op hop'
   · rw[hop.own op hopu];exact h.pos
 · rcases touch_cases ha with ⟨hi,ha'⟩|⟨hi,op,hopm,hop',hx⟩
   · exact h.mem i a ha'
   · obtain⟨_,b',f,o,h1,h2⟩:=htouch op hopm a hx;exact⟨b',h1⟩
 · rw[stepd_size] at hi;obtain⟨g0,h1,h2⟩:=h.leav i h0 hi;exact⟨_,stepd_other (by omega) h1,by rw[hd,woken_quitsD h2];exact h2⟩
theorem AI.leave(h:AI P H os0 gs w t q){i q':Nat}{g g':Goroutine}{es:Array Event}{fn:FuncId}{pos:String}(h0:0<i)(hi:i<gs.size)(hm:∀e∈es,e.mute=true)(hq:QuitsD P q' (deafBehind (Deaf t i) es) g'):AI P H os0 (stepd P gs i g g' w) w (t++MemOp.ofEvents i fn pos es) (upd q i q'):=by
 have ho:=mute_ops (g:=i) (fn:=fn) (pos:=pos) hm;have hown:∀op∈MemOp.ofEvents i fn pos es,op.g=i:=fun op hop=> (ho op hop).1;have old:∀ {j:Nat} {a:Touch},touchAt (t++MemOp.ofEvents i fn pos es) j=some a→touchAt t j=some a:=by
   intro j a ha;rcases touch_cases ha with ⟨_,ha'⟩|⟨_,op,hop,_,hxx⟩
   · exact ha'
   · rw[(ho op hop).2.1] at hxx;cases hxx
 refine⟨by rw[stepd_size];exact h.pos,h.sat,fun said=> noRace_append (h.nr said) hown fun j a _ op hop b hb _=> (by rw[(ho op hop).2.1] at hb;cases hb),fun j a ha hk=> (h.kn j a (old ha) hk).app _,fun j a b ha hk hb=> h.np j a b (old ha) hk hb,fun j op a hopj ha hk=> ?_,fun j a b ha hb=> h.bd j a b (old ha) hb,fun a=> (h.rel a).app fun op hop=> (ho op hop).2.2 a,fun j op hopj=> ?_,fun j a ha=> h.mem j a (old ha),?_,fun j h0' hj=> ?_,h.os⟩
 · rcases getElem?_append_cases hopj with ⟨hl,hop'⟩|⟨hl,hopu⟩
   · obtain⟨h1,h2⟩:=h.np2 j op a hop' ha hk;exact⟨h1,fun e e'=> by rw[heard_old hl];exact h2 e e'⟩
   · rw[(ho op hopu).2.1] at ha;cases ha
 · rw[stepd_size];rcases getElem?_append_cases hopj with ⟨hl,hop'⟩|⟨hl,hopu⟩
   · exact h.gb j op hop'
   · rw[hown op hopu];exact hi
 · rw[Deaf_other t (g:=0) (g':=i) (by omega) _ hown];exact h.df0
 · rw[stepd_size] at hj;by_cases e:j=i
   · subst e;exact⟨g',stepd_self hj,by rw[upd_same,Deaf_own];exact hq⟩
   · obtain⟨g0,h1,h2⟩:=h.leav j h0' hj;exact⟨_,stepd_other e h1,by rw[upd_ne _ _ e,Deaf_other t (g:=j) (g':=i) (Ne.symm e) _ hown,woken_quitsD h2];exact h2⟩
theorem AI.begin {X:Fk}{Fin:Goroutine→Prop}{H₁ F:View}{o:Obj}{g:Goroutine}(hn6:X.n≤6)(ne:X.Wg≠X.C)(hnone:H₁ X.Wg=none∧H₁ X.C=none)
   (hd:Dj ((H₁.put X.C (true,o)).put X.Wg (true,X.wgO ⟨0,0,0⟩)) F) (h:AI P (((H₁.put X.C (true,o)).put X.Wg (true,X.wgO ⟨0,0,0⟩)).plus F) os0 gs w t q)
   (hG:X.GI (fun _=> false) o) (hg:gs[0]? =some g) (hT:∀k,T (Mw P true X.ok) (MS P X Fin k (if 0<X.n then .kd else .wd) 0) (ro H₁) g):
   ∃s H ks rks D,PI P X Fin (H₁.plus F) gs.size os0 gs w t [] (if 0<X.n then .kd else .wd) s H ks rks q D:=by
 obtain⟨ρ,hρ⟩:=(hT (mu X.n [] (if 0<X.n then .kd else .wd) ⟨0,0,0⟩+1)).rank;have hWg:((H₁.put X.C (true,o)).put X.Wg (true,X.wgO ⟨0,0,0⟩)) X.Wg=some (true,X.wgO ⟨0,0,0⟩):=View.put_same ..;have hC:((H₁.put X.C (true,o)).put X.Wg (true,X.wgO ⟨0,0,0⟩)) X.C=some (true,o):=by rw[View.put_other _ _ (Ne.symm ne),View.put_same]
 have hH:∀b x,H₁ b=some x→((H₁.put X.C (true,o)).put X.Wg (true,X.wgO ⟨0,0,0⟩)) b=some x:=fun b x hb=> by
   rw[View.put_other,View.put_other]
   · exact hb
   · rintro rfl;rw[hnone.2] at hb;cases hb
   · rintro rfl;rw[hnone.1] at hb;cases hb
 generalize ((H₁.put X.C (true,o)).put X.Wg (true,X.wgO ⟨0,0,0⟩))=HH at hd h hWg hC hH;have hFn:F X.Wg=none∧F X.C=none:=⟨hd.none hWg,hd.none hC⟩
 have hB:∀b x,(H₁.plus F) b=some x→(HH.plus F) b=some x:=fun b x hb=> by
   unfold View.plus at hb;split at hb
   · rename_i y hy
     cases hb
     exact plus_left (hH b _ hy)
   · rw[plus_right (hd b x hb)];exact hb
 have hBn:∀b,(HH.plus F) b=none→(H₁.plus F) b=none:=fun b hb=> by
   cases hx:(H₁.plus F) b with
   | none=> rfl
   | some x=> rw[hB b x hx] at hb;cases hb
 have hV:∀j b,upd (fun _=> fun _=> none) 0 (ro H₁) j b=if j=0 then ro H₁ b else none:=fun j b=> by
   by_cases e:j=0
   · subst e;rw[upd_same,if_pos rfl]
   · rw[upd_ne _ _ e,if_neg e]
 have hro:∀b f o',ro H₁ b=some (f,o')→∃f',(HH.plus F) b=some (f',o'):=fun b f o' hb=> by
   obtain⟨_,f',h1⟩:=ro_some hb;exact⟨f',plus_left (hH b _ h1)⟩
 have hact:∀j,Act gs.size gs.size j→j=0:=fun j hj=> hj.elim id fun⟨h1,h2⟩=> by omega
 refine⟨⟨0,0,0⟩,upd (fun _=> fun _=> none) 0 (ro H₁),fun _=> mu X.n [] (if 0<X.n then .kd else .wd) ⟨0,0,0⟩+1,ρ::List.replicate (gs.size-1) .stop,fun _=> false,Inv.start hn6,h.pos,ne,fun κ=> rfl,fun _ _=> Nat.lt_succ_self _,⟨⟨?_⟩,?_,⟨fun j b f o' hb=> ?_,fun i j hij b o' hi=> ?_,fun j=> ?_,fun b f o' hb=> ?_,fun j b x o' _ hj=> ?_,?_⟩,fun j hj b=> ?_,?_,⟨⟨o,?_,hG⟩,fun j=> ?_,fun i op a hop ha hb=> ?_⟩,fun κ T hκ=> ?_,h.df0.trans (by split <;> rfl),fun κ T hκ=> ?_,h.os⟩,⟨rfl,?_,⟨g,ρ,hg,rfl,?_⟩,fun κ T hκ=> ?_,h.leav⟩⟩
 · exact h.sat _ _ _ (plus_left hWg)
 · exact h.sat.lt (plus_left hC)
 · rw[hV] at hb;split at hb
   · obtain⟨f',h1⟩:=hro b f o' hb;exact h.sat b f' o' h1
   · cases hb
 · rw[hV] at hi;split at hi
   · have:=(ro_some hi).1;cases this
   · cases hi
 · rw[hV];split
   · exact ro_none hnone.1
   · rfl
 · exact h.sat b f o' (hB b _ hb)
 · rw[hV] at hj;split at hj
   · have:=(ro_some hj).1;cases this
   · cases hj
 · exact⟨by rw[plus_right hnone.1];exact hFn.1,by rw[plus_right hnone.2];exact hFn.2⟩
 · rw[hV,if_neg fun e=> hj (.inl e)]
 · refine ⟨h.nr,h.bd,fun j hj i a b f o' ha hb hx hw=> ?_,fun i op a hop ha hk _=> h.kn i a (by rw[touchAt_of hop];exact ha) hk,fun i a b ha hk hb=> ?_,h.np2,fun j hj i a b ha hk hb _=> ?_,h.rel,h.gb,h.mem⟩
   · have:=hact j hj;subst this;rw[hV,if_pos rfl] at hx;obtain⟨f',h1⟩:=hro b f o' hx;refine h.kn i a ha (Classical.byContradiction fun hne=> ?_);rw[h.np i a b ha hne hb] at h1;cases h1
   · have h1:=h.np i a b ha hk hb;refine⟨fun j=> ?_,hBn b h1,?_⟩
     · rw[hV];split
       · cases hx:ro H₁ b with
         | none=> rfl
         | some x=>
           obtain⟨f',h2⟩:=hro b x.1 x.2 hx;rw[h1] at h2;cases h2
       · rfl
     · rintro rfl;rw[plus_left hC] at h1;cases h1
   · have:=hact j hj;subst this;exact h.kn i a ha hk
 · exact h.sat _ _ _ (plus_left hC)
 · rw[hV];split
   · exact ro_none hnone.2
   · rfl
 · refine .inl fun j hj=> ?_;have:=hact j hj;subst this;have ha':touchAt t i=some a:=by rw[touchAt_of hop];exact ha
   refine h.kn i a ha' (Classical.byContradiction fun hne=> ?_);have:=h.np i a _ ha' hne hb;rw[plus_left hC] at this;cases this
 · simp at hκ
 · simp at hκ
 · simp;have:=h.pos;omega
 · rw[upd_same];exact .walk hρ
 · simp at hκ
theorem PI.ends {X:Fk}{Fin:Goroutine→Prop}{H₁ F:View}{base:Nat}{ths:List Th}{s:Sh}{H:Nat→View}{ks:Nat→Nat}{rks:List Rank}{D:Nat→Bool}{g g':Goroutine}(h:PI P X Fin (H₁.plus F) base os0 gs w t ths .aq s H ks rks q D)(hC:H₁ X.C=none)(fn:FuncId)(pos:String):
   ∃o,X.GI (fun i=> decide (i<X.n)) o∧F X.C=none∧AI P ((H₁.put X.C (true,o)).plus F) os0 (stepd P gs 0 g g' w) w (t++MemOp.ofEvents 0 fn pos #[Go.ConcR.mk (.acquire (stA X.Wg))]) q:=by
 obtain⟨hlen,hquit⟩:=h.inv.done rfl;have hb:=h.b1;have hsz:=h.si.size;have hN:0<gs.size:=by omega
 obtain⟨⟨o,h1,h2⟩,h3,_⟩:=h.wt.free;have hD:D=fun i=> decide (i<X.n):=by
   funext κ
   rw[h.dd κ];by_cases e:κ<ths.length
   · rw[List.getElem?_eq_getElem e,hquit κ _ (List.getElem?_eq_getElem e)];simp[Th.did];omega
   · rw[List.getElem?_eq_none (by omega)];simp;omega
 subst hD;have hFC:F X.C=none:=by have:=h.wt.vi.bn.2;rw[plus_right hC] at this;exact this
 have hop:=mark_op (X:=X) (H:=H 0) (g:=0) (fn:=fn) (pos:=pos) (m:=.acquire (stA X.Wg)) (t:=t) (fun x hx=> by cases hx) (fun a e=> by cases e);have hti:=h.wt.tiOwn h.ne (.inl rfl) hN hop;have hdd:∀j,Deaf (t++MemOp.ofEvents 0 fn pos #[Go.ConcR.mk (.acquire (stA X.Wg))]) j=Deaf t j:=fun j=> mark_deaf (by simp) (by simp);have hj:=h.wt.ti.join (y:= { g:=0,fn,pos,act:=.mark (.acquire (stA X.Wg)) }) ⟨rfl,rfl⟩ h.wt.df0 fun g hge hlt=> by
   have hκ:g-base<ths.length:=by omega
   have hT:=List.getElem?_eq_getElem hκ;obtain⟨r,hr⟩:=h.wt.muted _ _ hT (by rw[hquit _ _ hT];rfl);rw[show base+(g-base)=g by omega] at hr;exact⟨r,hr⟩
 rw[←one_mark] at hj;refine⟨o,h2,hFC,by rw[stepd_size];exact hN,fun b f o' hbb=> ?_,hti.nr,hj,fun i a b ha hk hb'=> ?_,hti.np2,hti.bd,hti.rel,fun i op hopi=> by rw[stepd_size];exact hti.gs i op hopi,hti.mem,by rw[hdd];exact h.wt.df0,fun i h0 hi=> ?_,h.wt.os⟩
 · unfold View.plus at hbb;split at hbb
   · rename_i y hy
     cases hbb
     by_cases e:b=X.C
     · subst e;rw[View.put_same] at hy;cases hy;exact h1
     · rw[View.put_other _ _ e] at hy;exact h.wt.vi.bs b f o' (plus_left hy)
   · rename_i hy
     have e:b≠X.C:=by rintro rfl;rw[View.put_same] at hy;cases hy
     rw[View.put_other _ _ e] at hy;exact h.wt.vi.bs b f o' (by rw[plus_right hy];exact hbb)
 · obtain⟨_,g2,g3⟩:=hti.np i a b ha hk hb';unfold View.plus at g2 ⊢;rw[View.put_other _ _ g3];exact g2
 · rw[stepd_size] at hi;rcases Nat.lt_or_ge i base with hlt|hge
   · obtain⟨g0,g1,g2⟩:=h.si.leav i h0 hlt;exact⟨_,stepd_other (by omega) g1,by rw[hdd,woken_quitsD g2];exact g2⟩
   · have hκ:i-base<ths.length:=by omega
     have hT:=List.getElem?_eq_getElem hκ;obtain⟨g0,ρ,g1,_,g2⟩:=h.si.work _ _ hT;rw[show base+(i-base)=i by omega] at g1 g2;have hq:QuitsD P (q i) (Deaf t i) g0:=by
       cases g2 with
       | quit _ hq=> exact hq
       | quiet n hh _ _=> exact absurd (hquit _ _ hT) hh.1
       | walk hh _=> rw[hquit _ _ hT] at hh;cases hh
     exact⟨_,stepd_other (by omega) g1,by rw[hdd,woken_quitsD hq];exact hq⟩
def AtRet(P:Program)(Post:Value→World→Prop)(H:View)(g:Goroutine):Prop:=
 g.status=.running∧∀w,Sat H w→∃v es,stepG P true g w=.ended (.done v) w es∧(∀e∈es,EvOk H e)∧Post v w
inductive MI(P:Program)(St:View→Goroutine→Prop)(os0:Os0):Rank×Meas→Machine→Trace→Prop where
 | alone {gs:Array Goroutine} {w:World} {sl:Option (Nat×Nat)} {t:Trace} {q:Nat→Nat} {H:View} {g:Goroutine} {ρ:Rank} (h:AI P H os0 gs w t q) (hg:gs[0]? =some g) (hT:Tr (Mp P) St ρ H g) (hρ:∀f,ρ≠ .phase f):MI P St os0 (ρ,0,[],sumTo gs.size q,0) (crowd gs w sl) t
 | phase {gs:Array Goroutine} {w:World} {sl:Option (Nat×Nat)} {t:Trace} {q:Nat→Nat} {X:Fk} {Fin:Goroutine→Prop} {H₁ F:View} {base:Nat} {ths:List Th} {m:Mn} {s:Sh} {H:Nat→View} {ks:Nat→Nat} {rks:List Rank} {D:Nat→Bool} {f:View→Goroutine→Rank} {μ:Meas}
     (h:PI P X Fin (H₁.plus F) base os0 gs w t ths m s H ks rks q D) (hC:H₁ X.C=none) (hd:Dj H₁ F) (hμ:μ=PI.meas X gs ths m s rks q)
     (hk:∀o g',X.GI (fun i=> decide (i<X.n)) o→Fin g'→F X.C=none→Tr (Mp P) St (f ((H₁.put X.C (true,o)).plus F) g') ((H₁.put X.C (true,o)).plus F) g'):MI P St os0 (.phase f,μ) (crowd gs w sl) t
theorem MI.of {St:View→Goroutine→Prop}{sl:Option (Nat×Nat)}{g:Goroutine}{ρ:Rank}(h:AI P H os0 gs w t q)(hg:gs[0]? =some g)(hT:Tr (Mp P) St ρ H g):∃μ,MI P St os0 (ρ,μ) (crowd gs w sl) t:=by
 cases ρ with
 | stop=> exact⟨_,.alone h hg hT (fun f=> by simp)⟩
 | step f=> exact⟨_,.alone h hg hT (fun f=> by simp)⟩
 | phase f=>
   obtain⟨Po,⟨H₁,F,Po₁,hd,rfl,⟨X,Fin,H₂,o,hn6,ne,hnone,rfl,hG,hMS,hend⟩,hP⟩,hk⟩:=hT;obtain⟨s,H',ks,rks,D,hPI⟩:=AI.begin hn6 ne hnone hd h hG hg hMS;have hd':Dj H₂ F:=fun b x hb=> by
     have:=hd b x hb;cases hx:H₂ b with
     | none=> rfl
     | some y=>
       rw[View.put_other,View.put_other] at this
       · rw[hx] at this;cases this
       · rintro rfl;rw[hnone.2] at hx;cases hx
       · rintro rfl;rw[hnone.1] at hx;cases hx
   exact⟨_,.phase hPI hnone.2 hd' rfl fun o g' ho hF hFC=> hk _ _ (hP _ _ (hd'.put hFC) (hend o g' ho hF))⟩
def LtAll:Rank×Meas→Rank×Meas→Prop:=Prod.Lex Rank.Lt LtMeas
theorem LtAll.wf:WellFounded LtAll:=(Prod.lex ⟨Rank.Lt,Rank.wf⟩ ⟨LtMeas,LtMeas.wf⟩).wf
theorem handed(h:AI P H os0 gs w t q):t.HandedOver:=by
 intro i g hgi hne hc;obtain⟨x,hx,hm,hk⟩:=hc;obtain⟨op,hop,hopx⟩:=touch_of hx;have hog:op.g=g:=by simpa [Trace.g?,hop] using hgi
 have hpl:x.kind=.plain:=by
   refine Classical.byContradiction fun hne'=> ?_;obtain⟨h1,h2⟩:=h.np2 i op x hop hopx hne';have hnsaid:x.kind≠ .said:=fun e=> hne (hog▸h1 e);have hat:x.kind=.atomic:=by
     cases hkk:x.kind with
     | plain=> exact absurd hkk hne'
     | atomic=> rfl
     | said=> exact absurd hkk hnsaid
   rcases hk with hk|hk
   · exact hk hat
   · exact h2 hat (by rw[hog];exact hne) hk
 obtain⟨j,z,h1,h2,h3⟩:=h.kn i x hx hpl;refine⟨j,by simp[Trace.g?,h1,h2],?_⟩;rcases h3 with rfl|h3
 · rw[hop] at h1;cases h1
   exact absurd (hog.symm.trans h2) hne
 · exact h3
theorem MI.step {Post:Value→World→Prop}(μ:Rank×Meas)(m:Machine)(t:Trace)(h:MI P (AtRet P Post) os0 μ m t):
   (∃o w ops,stepT P m=(.ended o w,ops)∧Go.Conc.Good P (fun v w=> Post v w∧Kpt os0 w) m o w (t++ops))∨(∃m' ops μ',stepT P m=(.next m',ops)∧LtAll μ' μ∧MI P (AtRet P Post) os0 μ' m' (t++ops)):=by
 cases h with
 | phase h hC hd hμ hk=>
   rename_i gs w sl q X Fin H₁ F base ths mn s H ks rks D f μ
   obtain⟨d,hg⟩:=h.step (sl:=sl);rcases hg with ⟨gs',w',sl',ops,ths',m',s',H',ks',rks',q',D',hr,hPI,hlt⟩|⟨gs',sl',g,g',ths',s',H',ks',rks',q',D',hg0,hr,rfl,hF,hPI⟩
   · exact .inr ⟨_,ops,(.phase f,_),hr,.right _ (by rw[hμ];exact hlt),.phase hPI hC hd rfl hk⟩
   · obtain⟨o,ho,hFC,hAI⟩:=hPI.ends (g:=g) (g':=g') hC g.frame.fn g.frame.place;obtain⟨μ',hMI⟩:=MI.of (sl:=sl') hAI (stepd_self (by have:=hPI.si.size;have:=hPI.b1;omega)) (hk o g' ho hF hFC);exact .inr ⟨_,_,_,hr,.left _ _ (.phase f _ _),hMI⟩
 | alone h hg hT hρ=>
   rename_i gs w sl q H g ρ
   have hrun:g.status=.running:=by
     cases ρ with
     | stop=> exact hT.1
     | step f=> exact hT.1
     | phase f=> exact absurd rfl (hρ f)
   have haw:∀x∈gs,awake x:=by
     intro x hx tm;obtain⟨i,hi,rfl⟩:=Array.mem_iff_getElem.1 hx;have hi':=Array.getElem?_eq_getElem hi;by_cases e0:i=0
     · subst e0;rw[hg] at hi';cases hi'
       rw[hrun];simp
     · obtain⟨g0,h1,h2⟩:=h.leav i (by omega) hi;rw[h1] at hi';cases hi'
       rcases h2.status with e|e <;> rw[e] <;> simp
   obtain⟨i,g₁,d,sl',hg₁,hr₁,hstep⟩:=crowd_pick (P:=P) (w:=w) (sl:=sl) haw ⟨0,g,hg,hrun⟩;rw[hstep];have h':=h.at d;by_cases e0:i=0
   · subst e0;rw[hg] at hg₁;cases hg₁
     cases ρ with
     | phase f=> exact absurd rfl (hρ f)
     | step f=>
       obtain⟨_,hst⟩:=hT;obtain⟨g',w',es,H',h3,h4,h5⟩:=hst (w.at d) h'.sat trivial;have hAI:=h'.walk (g:=g) (g':=g') (fn:=g.frame.fn) (pos:=g.frame.place) h4;obtain⟨μ',hMI⟩:=MI.of (sl:=sl') hAI (stepd_self h.pos) h5;exact .inr ⟨_,_,_,runT_crowd_go hg h3,.left _ _ (.step f _),hMI⟩
     | stop=>
       obtain⟨_,hst⟩:=hT;obtain⟨v,es,h3,h4,h5⟩:=hst (w.at d) h'.sat;have hAI:=h'.walk (g:=g) (g':=g) (fn:=g.frame.fn) (pos:=g.frame.place) { Trans.refl h'.sat with ev:=h4 };have hleaves:∀x∈(crowd gs w sl).gs.toList.drop 1,x.Leaves P:=fun x hx=> by
         obtain⟨j,hj⟩:=List.mem_iff_getElem?.1 hx;rw[List.getElem?_drop] at hj;have hj':gs[1+j]? =some x:=by simpa [crowd] using hj
         have hjl:=(Array.getElem?_eq_some_iff.1 hj').1;obtain⟨g0,g1,g2⟩:=h.leav (1+j) (by omega) hjl;rw[hj'] at g1;cases g1
         exact⟨_,g2.leaves⟩
       have hhear:(crowd gs w sl).EndHearing P (t++MemOp.ofEvents 0 g.frame.fn g.frame.place es):=fun j x hj hj0=> by
         have hj':gs[j]? =some x:=hj;have hjl:j<gs.size:=(Array.getElem?_eq_some_iff.1 hj').1;obtain⟨g0,g1,g2⟩:=h.leav j (by omega) hjl;rw[hj'] at g1;cases g1
         refine⟨q j,?_⟩;have hdf:Deaf (t++MemOp.ofEvents 0 g.frame.fn g.frame.place es) j=Deaf t j:=Deaf_other t (g:=j) (g':=0) (by omega) _ ofEvents_g;have e:(t++MemOp.ofEvents 0 g.frame.fn g.frame.place es).deaf j (t++MemOp.ofEvents 0 g.frame.fn g.frame.place es).size=Deaf t j:=hdf;rw[e];exact g2.hears _
       exact .inl ⟨_,_,_,runT_many_ended hg h3,v,rfl,⟨h5,h.os⟩,hAI.nr,handed hAI,⟨hleaves,rfl⟩,hhear⟩
   · have hi:i<gs.size:=(Array.getElem?_eq_some_iff.1 hg₁).1;obtain⟨g0,g1,g2⟩:=h.leav i (by omega) hi;rw[g1] at hg₁;cases hg₁
     have hi0:(i==0)=false:=by simp;omega
     cases hqq:q i with
     | zero=> rw[hqq] at g2;rw[g2.1] at hr₁;cases hr₁
     | succ q'=>
       rw[hqq] at g2;rcases g2 with ⟨hf,_⟩|⟨_,g',es,hmu,hst,hq'⟩
       · rw[hf] at hr₁;cases hr₁
       · have hAI:=h'.leave (g:=g₁) (fn:=g₁.frame.fn) (pos:=g₁.frame.place) (by omega) hi hmu hq';have h0':(stepd P gs i g₁ g' (w.at d))[0]? =some g:=by
           rw[stepd_other (by omega) hg,woken_running (.inl hrun)]
         refine .inr ⟨_,_,_,runT_crowd_go g1 (by rw[hi0];exact hst _),?_,.alone hAI h0' hT hρ⟩;refine .right _ (lt_q ?_);show sumTo (stepd P gs i g₁ g' (w.at d)).size _<_;rw[stepd_size];have:=sumTo_upd (f:=q) q' (fun a=> a) (i:=i) (j:=gs.size) hi;have e:sumTo gs.size (fun a=> upd q i q' a)=sumTo gs.size (upd q i q'):=rfl;have e2:sumTo gs.size (fun a=> q a)=sumTo gs.size q:=rfl;omega
theorem T.runs {Post:Value→World→Prop}{H:View}{g:Goroutine}{W:World}(h:T (Mp P) (AtRet P Post) H g)(hs:Sat H W):
   ∃N last o w' t',runNT P (N+1) (solo g W) #[]=(.ended o w',t')∧runN P N (solo g W)=.next last∧Go.step P last=.ended o w'∧Go.Conc.Good P (fun v w=> Post v w∧Kpt (W.os,W.output) w) last o w' t':=by
 obtain⟨ρ,hρ⟩:=h.rank;have hAI:AI P H (W.os,W.output) #[g] W #[] (fun _=> 0):=by
   have none:∀(i:Nat) a,touchAt #[] i≠some a:=fun i a=> by simp[touchAt,Trace.act?]
   exact⟨by simp,hs,fun said ⟨i,j,_,⟨a,_,ha,_⟩,_⟩=> by simp[Trace.act?] at ha,fun i a ha=> absurd ha (none i a),fun i a b ha=> absurd ha (none i a),fun i op a hop=> by simp at hop,fun i a b ha=> absurd ha (none i a),fun a i=> by simp[Trace.act?],fun i op hop=> by simp at hop,fun i a ha=> absurd ha (none i a),rfl,fun i h0 hi=> by simp at hi;omega,Kpt.refl _⟩
 obtain⟨μ,hMI⟩:=MI.of (sl:=none) hAI (by simp) hρ;rw[solo_eq_crowd];exact run_of_inv LtAll.wf (MI P (AtRet P Post) (W.os,W.output)) (fun m o w t=> Go.Conc.Good P (fun v w=> Post v w∧Kpt (W.os,W.output) w) m o w t) (fun μ m t hm=> MI.step μ m t hm) _ _ _ hMI
end
end Go.RL
end
namespace Go.RL
open Go.Conc Go.ConcN
section
variable {P:Program}{n:Nat}{R:Rg}{L:Bl}{H₀:View}{k:List Item}
theorem T.top {M:Md P}{Post:Value→World→Prop}{H:View}{fn:Func}{b:FB}{tmps:Array Value}{todo:List Item}{v:Value}(hf:P.funcs[b.fn]? =some fn)(hi:P.inits.idxOf? b.fn=none)(hk:b.kind=.normal)(hv:resP fn R v)(hr:RegOk n R tmps)
   (hp:∀w,Sat H w→Post v w):T M (AtRet P Post) H (G (b.back tmps [] todo) []):=by
 refine .stop ⟨rfl,fun w hs=> ⟨v,#[],?_,fun e he=> by simp at he,hp w hs⟩⟩;have:stepG P true (G (b.back tmps [] todo) []) w=unwind P true (b.back tmps [] todo) [] none w:=by simp[G,stepG,FB.back]
 rw[this];unfold unwind;simp only[FB.back,hf,hv.run (P:=P) hr w,doReturn,hk,hi,GStep.after,seen_none];simp
theorem Tc.retTop {Post:Value→World→Prop}{fn:Func}{f:FuncId}{v:Value}(hf:P.funcs[f]? =some fn)(hi:P.inits.idxOf? f=none)(hv:resP fn R v)(hp:∀H w,SymSt H₀ L H→Sat H w→Post v w):
   Tc (Mp P) (AtRet P Post) n ⟨f,.normal,none⟩ H₀ [] R L [] (.code .ret::k):=fun H _ hs hr=> .retCode rfl (T.top hf hi rfl hv hr fun w hw=> hp H w hs hw)
theorem T.enterTop {f:FuncId}{fn:Func}{body:Code}{vs:List Value}{H:View}{St:View→Goroutine→Prop}(hf:P.funcs[f]? =some fn)(hb:fn.body=some body)(hn:fn.ntmps=n)(hv:vs.length≤n)
   (h:Tc (Mp P) St n ⟨f,.normal,none⟩ H [] (argR vs) [] [] [.code body]):T (Mp P) St H (G (Frame.enter P f vs.toArray .normal) []):=by
 have:=h H (vs.toArray++Array.replicate (n-vs.length) undef) (SymSt.nil H) ⟨by simp;omega,fun d v hd=> ?_⟩
 · have e:Frame.enter P f vs.toArray .normal=(⟨f,.normal,none⟩:FB).at (vs.toArray++Array.replicate (n-vs.length) undef) [] [.code body]:=by
     simp[Frame.enter,FB.at,hf,hb,hn]
   rw[e];exact this
 · obtain⟨_,h2⟩:=argR_go vs 0 d v hd;simp only[Nat.sub_zero] at h2;have hlt:=(List.getElem?_eq_some_iff.1 h2).1;rw[Array.getElem?_append_left (by simpa using hlt)];simpa using h2
end
end Go.RL
namespace Go.Proofs.YtldmfjcgjdchcaaGreatDoor
open Go.RL Go.Proofs.Tryz Go.ChangeShapes Go.WideShapes Go.ChangeAt Go.RowKit
set_option maxRecDepth 100000
def fullV(W:World):View:=fun b=> (W.heap[b]?).map fun o=> (false,o)
theorem fullV_sat(W:World):Sat (fullV W) W:=fun b f o h=> by
 simp only[fullV,Option.map_eq_some_iff,Prod.mk.injEq] at h;obtain⟨o',h1,_,rfl⟩:=h;exact h1
theorem ownK:ownKnob prog.godebug=none:=by kernel_rfl
theorem laidOutK:laidOutB prog=true:=by kernel_rfl
theorem gChecks:prog.globalNamed "baudot/dial.checks"=some 3:=by kernel_rfl
theorem tChecks:(prog.globals[3]?).map (·.type)=some 282:=by kernel_rfl
theorem gNot:prog.globalNamed "baudot/dial.not"=some 1:=by kernel_rfl
theorem tNot:(prog.globals[1]?).map (·.type)=some 242:=by kernel_rfl
theorem und125:prog.underlying 282=some (.array 3 281):=by kernel_rfl
theorem und124:prog.underlying 281=some (.func #[166] #[25] false):=by kernel_rfl
theorem und142:prog.underlying 242=some (.array 3 110):=by kernel_rfl
theorem und38:prog.underlying 110=some (.int .i64):=by kernel_rfl
theorem cells124:prog.cellsOf 281=1:=by kernel_rfl
theorem cells125:prog.cellsOf 282=3:=by kernel_rfl
theorem cells38:prog.cellsOf 110=1:=by kernel_rfl
theorem cells142:prog.cellsOf 242=3:=by kernel_rfl
theorem laidVars_at {P:Program}{w:World}:∀ {l:List (String×DataW Unit)} {ps:List MemPlace},DataW.LaidVars P w l ps→∀ {n:String} {d:DataW Unit},(n,d)∈l→
   ∃g t cs fuel p,P.globalNamed n=some g∧(P.globals[g]?).map (·.type)=some t∧w.var? P n=some cs∧DataW.trod (fun _=> ()) P w 0 (fun _=> true) false fuel t cs.toList=some (d,p)
 | [],_,_,_,_,h=> by cases h
 | (m,e)::r,ps,h,n,d,hm=> by
   obtain⟨g,t,cs,fuel,p,q,h1,h2,h3,h4,h5,_⟩:=h;rcases List.mem_cons.1 hm with e1|hm
   · cases e1
     exact⟨g,t,cs,fuel,p,h1,h2,h3,h4⟩
   · exact laidVars_at h5 hm
theorem var_heap {W:World}{n:String}{g:Nat}{cs:Array Value}(hg:prog.globalNamed n=some g)(hv:W.var? prog n=some cs):∃gt gz,W.heap[g]? =some (.cells cs gt gz):=by
 unfold World.var? at hv;rw[hg] at hv;simp only[Option.bind_some] at hv;split at hv
 · rename_i cs' t' z e
   obtain rfl:=Option.some.inj hv;exact⟨_,_,e⟩
 · cases hv
theorem glob_of {LL:List (String×DataW Unit)}(hc:("baudot/dial.checks",(Rows.laid_baudot_dial_checks:DataW Unit))∈LL)(hn:("baudot/dial.not",(Rows.laid_baudot_dial_not:DataW Unit))∈LL.filter fun x=> x.2.handleName?.isNone){W:World}(h:laidMetH prog LL W):Glob (fullV W):=by
 constructor
 · obtain⟨g,t,cs,fuel,p,hg,ht,hv,hd⟩:=h.funcs (n:= "baudot/dial.checks") hc;obtain rfl:=Option.some.inj (gChecks.symm.trans hg);obtain rfl:=Option.some.inj (tChecks.symm.trans ht);obtain⟨gt,gz,hh⟩:=var_heap gChecks hv;have hlen:cs.toList.length=3:=by
     cases fuel with
     | zero=> simp[DataW.trod] at hd
     | succ n=>
       unfold DataW.trod at hd;rw[und125] at hd;simp[cells125] at hd
       simpa using hd.1
   obtain⟨c0,c1,c2,hcs⟩:∃c0 c1 c2,cs.toList= [c0,c1,c2]:=by
     match e:cs.toList,hlen with
     | [c0,c1,c2],_=> exact⟨c0,c1,c2,rfl⟩
   rw[hcs] at hd;obtain⟨y0,y1,y2,n,hx,r0,r1,r2⟩:=trod_array3 und125 cells124 hd;have hx':=congrArg Prod.fst hx;have hx2:(DataW.agg [y0.1,y1.1,y2.1]:DataW (List UInt8))=DataW.agg [.held _,.held _,.held _]:=hx'.symm;simp only[DataW.agg.injEq,List.cons.injEq,and_true] at hx2;obtain⟨e0,e1,e2⟩:=hx2;obtain⟨d0,q0⟩:=y0;obtain⟨d1,q1⟩:=y1;obtain⟨d2,q2⟩:=y2;simp only at e0 e1 e2;subst e0 e1 e2;obtain rfl:=func_of_trod (f0:=368) und124 (by kernel_rfl) r0;obtain rfl:=func_of_trod (f0:=369) und124 (by kernel_rfl) r1;obtain rfl:=func_of_trod (f0:=370) und124 (by kernel_rfl) r2;refine⟨false,gt,gz,?_⟩;have ec:cs=⟨[chkF 0,chkF 1,chkF 2]⟩:=by
     apply Array.ext'
     rw[hcs];rfl
   rw[←ec];simp only[fullV,hh,Option.map_some]
 · obtain⟨⟨ps,hl,_⟩,_⟩:=laidMetH_iff.1 h;obtain⟨g,t,cs,fuel,p,hg,ht,hv,hd⟩:=laidVars_at hl hn;obtain rfl:=Option.some.inj (gNot.symm.trans hg);obtain rfl:=Option.some.inj (tNot.symm.trans ht);obtain⟨gt,gz,hh⟩:=var_heap gNot hv;have hlen:cs.toList.length=3:=by
     cases fuel with
     | zero=> simp[DataW.trod] at hd
     | succ n=>
       unfold DataW.trod at hd;rw[und142] at hd;simp[cells142] at hd
       simpa using hd.1
   obtain⟨c0,c1,c2,hcs⟩:∃c0 c1 c2,cs.toList= [c0,c1,c2]:=by
     match e:cs.toList,hlen with
     | [c0,c1,c2],_=> exact⟨c0,c1,c2,rfl⟩
   rw[hcs] at hd;obtain⟨y0,y1,y2,n,hx,r0,r1,r2⟩:=trod_array3 und142 cells38 hd;have hx':=congrArg Prod.fst hx;have hx2:(DataW.agg [y0.1,y1.1,y2.1]:DataW Unit)=DataW.agg [.lit (.int .i64 0),.lit (.int .i64 2),.lit (.int .i64 1)]:=hx'.symm;simp only[DataW.agg.injEq,List.cons.injEq,and_true] at hx2;obtain⟨e0,e1,e2⟩:=hx2;obtain⟨z0,g0,g0',_⟩:=DataW.trod_int und38 r0;obtain⟨z1,g1,g1',_⟩:=DataW.trod_int und38 r1;obtain⟨z2,g2,g2',_⟩:=DataW.trod_int und38 r2;subst g0' g1' g2';simp only[DataW.lit.injEq,Lit.int.injEq,true_and] at e0 e1 e2;simp only[List.cons.injEq,and_true] at g0 g1 g2;refine⟨false,gt,gz,?_⟩;have ec:cs=⟨[.int .i64 0,.int .i64 2,.int .i64 1]⟩:=by
     apply Array.ext'
     rw[hcs,g0,g1,g2,e0,e1,e2]
   rw[←ec];simp only[fullV,hh,Option.map_some]
theorem gSigns:prog.globalNamed "baudot/code.signs"=some 4:=by kernel_rfl
theorem tSigns:(prog.globals[4]?).map (·.type)=some 290:=by kernel_rfl
theorem undSigns:prog.underlying 290=some (.array 2 9):=by kernel_rfl
theorem undStr:prog.underlying 9=some .string:=by kernel_rfl
theorem cellsStr:prog.cellsOf 9=1:=by kernel_rfl
theorem cellsSigns:prog.cellsOf 290=2:=by kernel_rfl
theorem trod_two {P:Program}{w:World}{base:Nat}{spare:Nat→Bool}{held:Bool}{H:Type}{enc:TypeId×Value→H}{t e:TypeId}{fuel:Nat}{c0 c1:Value}{x:DataW H×List MemPlace}(ht:P.underlying t=some (.array 2 e))(hce:P.cellsOf e=1)
   (h:DataW.trod enc P w base spare held fuel t [c0,c1]=some x):
   ∃y0 y1 n,x=(.agg [y0.1,y1.1],y0.2++y1.2)∧DataW.trod enc P w base spare held n e [c0]=some y0∧DataW.trod enc P w base spare held n e [c1]=some y1:=by
 cases fuel with
 | zero=> simp[DataW.trod] at h
 | succ n=>
   unfold DataW.trod at h;rw[ht] at h;have r2:List.range 2= [0,1]:=rfl;simp[r2,hce] at h
   obtain⟨_,h⟩:=h;cases h0:DataW.trod enc P w base spare held n e [c0] with
   | none=> simp[h0] at h
   | some y0=>
     cases h1:DataW.trod enc P w base spare held n e [c1] with
     | none=> simp[h0,h1] at h
     | some y1=>
       simp[h0,h1] at h
       exact⟨y0,y1,n,h.symm,h0,h1⟩
theorem sig_of {LL:List (String×DataW Unit)}(hn:("baudot/code.signs",(Rows.laid_baudot_code_signs:DataW Unit))∈LL.filter fun x=> x.2.handleName?.isNone){W:World}(h:laidMetH prog LL W):Sig (fullV W):=by
 obtain⟨⟨ps,hl,_⟩,_⟩:=laidMetH_iff.1 h;obtain⟨g,t,cs,fuel,p,hg,ht,hv,hd⟩:=laidVars_at hl hn;obtain rfl:=Option.some.inj (gSigns.symm.trans hg);obtain rfl:=Option.some.inj (tSigns.symm.trans ht);obtain⟨gt,gz,hh⟩:=var_heap gSigns hv;have hlen:cs.toList.length=2:=by
   cases fuel with
   | zero=> simp[DataW.trod] at hd
   | succ n=>
     unfold DataW.trod at hd;rw[undSigns] at hd;simp[cellsSigns] at hd
     simpa using hd.1
 obtain⟨c0,c1,hcs⟩:∃c0 c1,cs.toList= [c0,c1]:=by
   match e:cs.toList,hlen with
   | [c0,c1],_=> exact⟨c0,c1,rfl⟩
 rw[hcs] at hd;obtain⟨y0,y1,n,hx,r0,r1⟩:=trod_two undSigns cellsStr hd;obtain⟨s0,g0,g0',_⟩:=DataW.trod_string undStr r0;obtain⟨s1,g1,g1',_⟩:=DataW.trod_string undStr r1;subst g0' g1';have hx':=congrArg Prod.fst hx;have hx2:(DataW.agg [.lit (.string s0.data.toList),.lit (.string s1.data.toList)]:DataW Unit)=DataW.agg [.lit (.string sgLet),.lit (.string sgFig)]:=hx'.symm;simp only[DataW.agg.injEq,List.cons.injEq,and_true,DataW.lit.injEq,Lit.string.injEq] at hx2;obtain⟨e0,e1⟩:=hx2;simp only[List.cons.injEq,and_true] at g0 g1;refine⟨false,gt,gz,?_⟩;have ec:cs=⟨[strV sgLet,strV sgFig]⟩:=by
   apply Array.ext'
   rw[hcs,g0,g1];obtain⟨⟨l0⟩⟩:=s0;obtain⟨⟨l1⟩⟩:=s1;simp only at e0 e1;rw[e0,e1]
 rw[←ec];simp only[fullV,hh,Option.map_some]
section
variable {H:Type}{enc:TypeId×Value→H}{P:Program}{W W':World}
theorem trodAll_stays(hl:laidOutB P=true)(hb:∀x:MemPlace,x.block<W.heap.size→W.sameAt W' x):∀ {ts:List TypeId} {vs:List Value} {ds:List (DataW H)} {p:List MemPlace},ts.all (fun t=> P.readableRec t&&decide (t<P.types.size))=true→
   DataW.TrodAll enc P W 0 (fun _=> true) true ts vs ds p→(∀x∈p,x.block<W.heap.size)→DataW.TrodAll enc P W' 0 (fun b=> decide (b<W.heap.size)) true ts vs ds p
 | [],[],[],_,_,h,_=> h
 | t::ts,v::vs,d::ds,p,hr,h,hlt=> by
   simp only[List.all_cons,Bool.and_eq_true,decide_eq_true_eq] at hr;obtain⟨a,b,h1,h2,rfl⟩:=h;exact⟨a,b,WideElems.Trod_stays hl hr.1.1 hr.1.2 h1 (fun x hx=> hb x (hlt x (by simp[hx]))) (fun x hx=> by simpa using hlt x (by simp[hx])),trodAll_stays hl hb hr.2 h2 (fun x hx=> hlt x (by simp[hx])),rfl⟩
 | [],[],_::_,_,_,h,_=> h.elim
 | [],_::_,[],_,_,h,_=> h.elim
 | [],_::_,_::_,_,_,h,_=> h.elim
 | _::_,[],[],_,_,h,_=> h.elim
 | _::_,[],_::_,_,_,h,_=> h.elim
 | _::_,_::_,[],_,_,h,_=> h.elim
theorem trodAll_len {base:Nat}{sp:Nat→Bool}{held:Bool}:∀ {ts:List TypeId} {vs:List Value} {ds:List (DataW H)} {p:List MemPlace},DataW.TrodAll enc P W base sp held ts vs ds p→ds.length=ts.length
 | [],[],[],_,_=> rfl
 | _::_,_::_,_::_,_,h=> by
   obtain⟨_,_,_,h2,_⟩:=h;simp[trodAll_len h2]
 | [],[],_::_,_,h=> h.elim
 | [],_::_,[],_,h=> h.elim
 | [],_::_,_::_,_,h=> h.elim
 | _::_,[],[],_,h=> h.elim
 | _::_,[],_::_,_,h=> h.elim
 | _::_,_::_,[],_,h=> h.elim
theorem keptBut_of_kept(ho:W'.os=W.os)(hout:W'.output=W.output)(hb:∀b<W.heap.size,W'.heap[b]? =W.heap[b]?)(may:MemPlace→Prop):W.keptBut W' may:=by
 refine⟨ho,hout,fun i hi=> ?_⟩;rw[hb i hi];cases h:W.heap[i]? with
 | none=> exact rfl
 | some o=>
   cases o with
   | cells c t fr=> exact⟨rfl,rfl,rfl,fun _ _=> rfl⟩
   | map es k=> exact .inr ⟨rfl,rfl⟩
   | _=> exact rfl
theorem post_kept {f:Func}{s:ChangeSpec}{args:Array Value}{ds gs:List (DataW H)}{before:List MemPlace}{tb:TypeId}(hl:laidOutB P=true)(hr:f.params.toList.all (fun t=> P.readableRec t&&decide (t<P.types.size))=true)
   (hres:f.resultTypes=#[tb]) (htb:P.underlying tb=some .bool) (hs:s.vars= []) (hW:DataW.Whole enc P f.params.toList s.vars false W args.toList ds gs before) (hfn:s.fn H (ds++gs)= { results:= [.lit (.bool true)],args:=ds })
   (hout:W'.output=W.output) (hsz:W.heap.size≤W'.heap.size) (hb:∀b<W.heap.size,W'.heap[b]? =W.heap[b]?):s.post enc P f false true false false W args (.bool true) { W' with os:=W.os }:=by
 have hlt:=hW.lt;have hW0:=hW;obtain⟨p,q,hA,hV,rfl,hfz,hnd⟩:=hW;rw[hs] at hV;obtain⟨rfl,rfl⟩:=trodVars_none hV;have hbel:Below W.heap.size W { W' with os:=W.os,tape:=W.tape }:=⟨rfl,rfl,hout,hsz,hb⟩
 refine⟨ds,[],p++[],[],p,[],hW0,?_,?_,?_,keptBut_of_kept (W:=W) (W':= { W' with os:=W.os }) rfl hout hb _,fun h=> nomatch h⟩
 · rw[hfn,hres];exact trodAll_mk1 (shut_bool htb _)
 · rw[hfn];exact trodAll_stays (W':= { W' with os:=W.os }) hl (fun x hx=> hbel.same hx) hr hA (fun x hx=> hlt x (by simp[hx]))
 · rw[hfn,hs];rfl
end
theorem keep_os {w w':World}(h:w'.os=w.os){Q:World→Prop}(hq:Q { w' with os:=w.os }):Q w':=by
 rw[←h] at hq;exact hq
theorem lifted {LL:List (String×DataW Unit)}{f:FuncId}{fn:Func}{s:ChangeSpec}{n:Nat}{body:Code}{a:Assume}{os:Os}{H:Type}{enc:TypeId×Value→H}{conds:List PathCond}
   (hfn:prog.funcs[f]? =some fn) (hb:fn.body=some body) (hn:fn.ntmps=n) (hi:prog.inits.idxOf? f=none) (hpn:fn.params.size≤n)
   (hres:fn.resultTypes=#[4]) (hread:fn.params.toList.all (fun t=> prog.readableRec t&&decide (t<prog.types.size))=true)
   (hsv:s.vars= []) (hsf:∀ds:List (DataW H),ds.length=fn.params.size→s.fn H (ds++[])= { results:= [.lit (.bool true)],args:=ds })
   (started:os.Started)
   (witness:∃(w:World) (tape:Tape) (i:Input),w.os=os∧(w.forCall tape i).Shaped prog∧i.vars= []∧Input.okWide prog (w.forCall tape i) .any w.heap.size f i∧
     ((s.pre enc prog fn conds false (w.forCall tape i).memory i.args∧laidMetH prog LL (w.forCall tape i).memory)∧sizedMet enc prog fn (OpenSpec.ofChange s) false (w.forCall tape i).memory i.args)∧a.holds prog (lone (Frame.enter prog f i.args .normal) [] (w.forCall tape i)))
   (walk:∀(W:World) (base:Nat) (vs:List Value) (ds:List (DataW H)) (p:List MemPlace),vs.length=fn.params.size→(∀(j:Nat) t v,fn.params[j]? =some t→vs[j]? =some v→Value.okWide prog W .any base t v)→
     DataW.TrodAll enc prog W 0 (fun _=> true) true fn.params.toList vs ds p→(DataW.weightsEach prog fn.params.toList ds).all (· ≤reachBytes)=true→laidMetH prog LL W→
     ∀(St:View→Goroutine→Prop),(∀(H₀:View) (R:Rg) (L:Bl) (kk:List Item),resP fn R (.bool true)→(fullV W).le H₀→Tc (Mp prog) St n ⟨f,.normal,none⟩ H₀ [] R L [] (.code .ret::kk))→
     Tc (Mp prog) St n ⟨f,.normal,none⟩ (fullV W) [] (argR vs) [] [] [.code body]):
   ReturnsInLeavingWide a Tryz.checked os f .any (fun w args=> (s.pre enc prog fn conds false w args∧laidMetH prog LL w)∧sizedMet enc prog fn (OpenSpec.ofChange s) false w args)
     (s.post enc prog fn false true false false):=by
 refine returnsInLeavingWide_of_good (C:=Tryz.checked) ownK started witness ?_;intro w tape i _ _ _ hok hpre _;obtain⟨_,_,_,fn',hfn',_,_,_,hsize,hval⟩:=hok;have e:fn'=fn:=Option.some.inj (hfn'.symm.trans hfn);subst e;obtain⟨⟨⟨ds,gs,before,hw,hc⟩,hl⟩,hz⟩:=hpre;generalize hWe:w.forCall tape i=W at *;have hw':DataW.Whole enc prog fn'.params.toList s.vars false W i.args.toList ds gs before:=hw.of_heap (by rfl);have hl':laidMetH prog LL W:=hl.of_heap (by rfl);have hwt:=hz.weights hw;have hw0:=hw';obtain⟨p,q,hA,hV,rfl,hfz,hnd⟩:=hw';rw[hsv] at hV;obtain⟨rfl,rfl⟩:=trodVars_none hV;have hlen:ds.length=fn'.params.size:=by
   simpa using trodAll_len hA
 have hwt':(DataW.weightsEach prog fn'.params.toList ds).all (· ≤reachBytes)=true:=by
   have e:DataSpec.varTypes prog (OpenSpec.ofChange s).bare.plain= []:=by
     show List.filterMap _ s.vars= []
     rw[hsv];rfl
   have:=hwt;rw[e] at this;simpa using this
 have hT :=T.runs (Post:=fun v w=> v=.bool true∧W.heap.size≤w.heap.size∧∀b<W.heap.size,w.heap[b]? =W.heap[b]?) (H:=fullV W) (T.enterTop hfn hb hn (by simpa [hsize] using hpn)
   (walk W w.heap.size i.args.toList ds p (by simpa using hsize) (fun j t v h1 h2=> hval j t v h1 (by simpa using h2)) hA hwt' hl' _
     (fun H₀ R L kk hv hle=> Tc.retTop hfn hi hv (fun H w hs hw=> by
       have hk:∀b<W.heap.size,w.heap[b]? =W.heap[b]? :=fun b hb=> by
         have h1:fullV W b=some (false,W.heap[b]):=by simp[fullV,hb]
         rw[hw b false _ (hs.base _ _ (hle _ _ h1))];simp[hb]
       refine⟨rfl,?_,hk⟩;rcases Nat.eq_zero_or_pos W.heap.size with hz|hz
       · omega
       · have h1:=hk (W.heap.size-1) (by omega);have h2:=h1.trans (Array.getElem?_eq_getElem (show W.heap.size-1<W.heap.size by omega));have:=(Array.getElem?_eq_some_iff.1 h2).1;omega)))) (fullV_sat W)
 rw[Array.toArray_toList] at hT;obtain⟨N,last,o,w',t',h1,h2,h3,v,ho,⟨⟨rfl,hp1,hp2⟩,hk1,hk2⟩,r1,r2,r3,r4⟩:=hT;exact⟨N,last,o,w',t',h1,h2,h3,.bool true,ho,ChangeSpec.post_blind (keep_os hk1 (post_kept laidOutK hread hres (by kernel_rfl) hsv hw0 (hsf ds hlen) hk2 hp1 hp2)),r1,r2,r3,r4⟩
theorem open_u8 {W:World}{base:Nat}{v:Value}(h:Value.okWide prog W .any base 5 v):∃x,v=.int .u8 x∧0≤x∧x<256:=by
 unfold Value.okWide Cell.okWide Cell.ok at h;rw[show prog.underlying 5=some (.int .u8) by kernel_rfl] at h;cases v with
 | int k n=>
   obtain⟨rfl,h1,h2⟩:=h;have e1:IntKind.u8.min=0:=by kernel_rfl
   have e2:IntKind.u8.max=255:=by kernel_rfl
   exact⟨n,rfl,by omega,by omega⟩
 | _=> exact h.elim
theorem witness_plain {H:Type}{enc:TypeId×Value→H}{C:Checked}{os:Os}{f:FuncId}{fn:Func}{s:ChangeSpec}{conds:List PathCond}{apart:Bool}{X:World→Array Value→Prop}(w0:World)(args:Array Value)(fuel:Nat)(hos:w0.os=os)
   (hsh:(w0.forCall (fun _ _=> 0) ⟨#[],args,[]⟩).Shaped C.prog)
   (hok:Input.okWideB C.prog (w0.forCall (fun _ _=> 0) ⟨#[],args,[]⟩) f ⟨#[],args,[]⟩=true)
   (hpre:s.preB enc C.prog fn conds apart (w0.forCall (fun _ _=> 0) ⟨#[],args,[]⟩).memory args fuel=true)
   (hsz:s.sizedB enc C.prog fn apart (w0.forCall (fun _ _=> 0) ⟨#[],args,[]⟩).memory args fuel=true)
   (hx:X (w0.forCall (fun _ _=> 0) ⟨#[],args,[]⟩).memory args):
   ∃ (w:World) (tape:Tape) (i:Input),w.os=os∧(w.forCall tape i).Shaped C.prog∧i.vars= []∧Input.okWide C.prog (w.forCall tape i) .any w.heap.size f i∧
     ((s.pre enc C.prog fn conds apart (w.forCall tape i).memory i.args∧X (w.forCall tape i).memory i.args)∧sizedMet enc C.prog fn (OpenSpec.ofChange s) apart (w.forCall tape i).memory i.args)∧({}:Assume).holds C.prog (lone (Frame.enter C.prog f i.args .normal) [] (w.forCall tape i)):=
 ⟨w0,fun _ _=> 0,⟨#[],args,[]⟩,hos,hsh,(Input.okWide_of_okWideB (base:=0) hok).1,(Input.okWide_of_okWideB hok).2,⟨⟨ChangeSpec.pre_of_preB hpre,hx⟩,sizedMet_of_sizedB hsz⟩,by
   simp only[Assume.holds];simp⟩
theorem holds_tied_goes(Lk:Looks){p:Pinned}{s:OpenSpec}{c:OpenClaim}(kinds:List LaidKind)(tests:Bool)(har:Bool×String)(lk:Bool)
   (hc:c.holds p s) (hw:c.wfByText s=true) (htie:c.laidByTextAt Lk p kinds tests)
   (hst:c.start=.entering) (hnb:c.noBlocks=false∧c.again=false) (hm:p.checked.prog.mainIs=some (har.1,har.2.toList)) (hn:(!har.1&&har.2.isEmpty && !lk)=false)
   (hl:∀f fn,p.checked.prog.funcNamed c.func=some f→p.checked.prog.funcs[f]? =some fn→lk=p.checked.prog.looks []∧∀(j:Nat) t,fn.params[j]? =some t→p.checked.prog.wantsStandIn t=false)
   (hg:true=c.goesBy p.checked.prog):
   Claim7.holds p (.plain s) { stood:= { row:=c,standIns:= [],harness:=har,looks:=lk },kinds:= [],alts:= [],goes:=true,laidByText:=true,laidKinds:=kinds,laidTests:=tests,laidLooks:=Lk }:=by
 have h6:∀r:OpenClaim,Claim7.isSixth { stood:= { row:=r,standIns:= [],harness:=har,looks:=lk },kinds:= [] }=false:=fun r=> by simpa [Claim7.isSixth] using hn
 obtain⟨h1,h2⟩:=Claim7.tied_new_at Lk kinds tests (Claim7.new_of_sixth hc har lk hst hnb hm (h6 c) hl) hw;exact⟨⟨h1,h2⟩,(fun D hD=> by cases hD),htie,(fun h=> by cases h),hg⟩
theorem no_stand {ps:Array TypeId}(h:ps.toList.all (fun u=> !prog.wantsStandIn u)=true):∀(j:Nat) t,ps[j]? =some t→prog.wantsStandIn t=false:=fun j t ht=> by
 have hm:t∈ps.toList:=by simpa using Array.mem_of_getElem? ht
 simpa using List.all_eq_true.1 h t hm
section
variable {H:Type}{enc:TypeId×Value→H}{P:Program}{W:World}{base:Nat}{sp:Nat→Bool}{held:Bool}
end
theorem open_u16 {W:World}{base:Nat}{v:Value}(h:Value.okWide prog W .any base 22 v):∃x,v=.int .u16 x∧0≤x∧x≤65535:=by
 unfold Value.okWide Cell.okWide Cell.ok at h;rw[show prog.underlying 22=some (.int .u16) by kernel_rfl] at h;cases v with
 | int k n=>
   obtain⟨rfl,h1,h2⟩:=h;have e1:IntKind.u16.min=0:=by kernel_rfl
   have e2:IntKind.u16.max=65535:=by kernel_rfl
   exact⟨n,rfl,by omega,by omega⟩
 | _=> exact h.elim
section
variable {H:Type}{enc:TypeId×Value→H}{W:World}
end
end Go.Proofs.YtldmfjcgjdchcaaGreatDoor
namespace Go.RL
open Go.Conc
section
variable {P:Program}{E:Env P}{M:Md P}{n:Nat}{H₀:View}{R:Rg}{L L':Bl}{K:Rg→Bl→Prop}{o:Oper}{d:Nat}{v:Value}
theorem OpV.sliceData {cl:Go.Call}{x:Operand}{t:TypeId}{a:Addr}{m c:Nat}(hop:o.op=.call cl)(hcl:cl.callee=.builtin .unsafeSliceData)(hat:cl.argTypes=#[t])(har:cl.args=#[x])(hx:evR R x=some (.slice (some a) m c))(hc:Nat.beq c 0=false):
   OpV P n H₀ R L o (.pointer (some a)):=fun H tmps _ hr=> by
 unfold execOp;rw[hop];simp only[resolve,hcl,hat,har];have hm:Array.map (evT tmps) #[x]=#[.slice (some a) m c]:=by simp[hr.ev hx]
 rw[hm];refine vwp_bind (Builtin.unsafeSliceData_ #[t] o.type #[.slice (some a) m c]) _ ?_;have h0:c≠0:=Nat.ne_of_beq_eq_false hc;show vwp P (if c≠0 then Sem.pure (Value.pointer (some a)) else _) H _;rw[if_pos h0];exact⟨rfl,rfl⟩
theorem vwp_loadBytes {H:View}{f:Bool}{e:TypeId}{fz:Nat×Nat}{l:List Value}(blk:Nat)(hb:H blk=some (f,.cells ⟨l⟩ e fz)):∀(s a:List UInt8) (off:Nat) {Q:ByteArray→View→Prop},(∀i x,s[i]? =some x→l[off+i]? =some (.int .u8 (x.toNat:Nat)))→Q ⟨⟨a++s⟩⟩ H→vwp P (loadBytes ⟨blk,off,none⟩ ⟨⟨a⟩⟩ s.length) H Q
 | [],a,off,Q,_,h=> by
   rw[List.append_nil] at h;exact h
 | x ::s,a,off,Q,hl,h=> by
   have h0:=hl 0 x rfl;have ih:=vwp_loadBytes blk hb s (a++[x]) (off+1) (Q:=Q) (fun i y hy=> by
     have:=hl (i+1) y hy;rw[show off+1+i=off+(i+1) by omega];exact this) (by rw[List.append_assoc];exact h)
   refine⟨rfl,rfl,f,⟨l⟩,e,fz,.int .u8 (x.toNat:Nat),hb,?_,?_⟩
   · simpa using h0
   · have e1:(ByteArray.mk ⟨a⟩).push ((x.toNat:Nat):Int).toNat.toUInt8=ByteArray.mk ⟨a++[x]⟩:=by
       rw[Int.toNat_natCast,Nat.toUInt8,UInt8.ofNat_toNat,bytes_push]
     show vwp P (loadBytes (Addr.add ⟨blk,off,none⟩ 1) ((ByteArray.mk ⟨a⟩).push ((x.toNat:Nat):Int).toNat.toUInt8) s.length) H Q;rw[e1];exact ih
theorem Or.unsafeStr(j:Nat){cl:Go.Call}{x y:Operand}{t u e eb blk:Nat}{s:List UInt8}{jj:List Value}(hop:o.op=.call cl)(hcl:cl.callee=.builtin .unsafeString)(hat:cl.argTypes=#[t,u])(har:cl.args=#[x,y])
   (hx:evR R x=some (.pointer (some ⟨blk,0,none⟩))) (hy:evR R y=some (.int .i64 (s.length:Nat))) (ht:P.underlying t=some (.pointer e)) (hs0:s≠ []) (hs1:s.length≤1000000000)
   (hL:L[j]? =some (blk,true,.cells ⟨bytesV s++jj⟩ eb (0,0))) (hlies:liesAt P P.depth eb ((bytesV s++jj).length/P.cellsOf eb) 0 e s.length=true) (hd:o.dst=some d) (hn:d<n)
   (hk:K ((d,strV s)::R) (L.set j (blk,true,.cells ⟨bytesV s++jj⟩ eb (0,s.length)))):Or M n H₀ R L o K:=
 .val hd hn fun H tmps hst hr=> by
   unfold execOp;rw[hop];simp only[resolve,hcl,hat,har];have hm':Array.map (evT tmps) #[x,y]=#[.pointer (some ⟨blk,0,none⟩),.int .i64 (s.length:Nat)]:=by simp[hr.ev hx,hr.ev hy]
   rw[hm'];have hb:=hst.get hL;have hpos:0<s.length:=List.length_pos_iff.2 hs0;have h1:¬((s.length:Nat):Int)<0:=by omega
   have h2:¬((s.length:Nat):Int)>IntKind.i64.max:=by
     have:IntKind.i64.max=9223372036854775807:=by decide
     omega
   have h3:¬((s.length:Nat):Int)=0:=by omega
   refine vwp_bind (Builtin.unsafeString_ #[t,u] o.type #[.pointer (some ⟨blk,0,none⟩),.int .i64 (s.length:Nat)]) _ ?_;have hz1:∀z:Int,(((s.length:Nat):Int)=z)→¬z<0∧¬z>IntKind.i64.max∧¬z=0∧z.toNat=s.length:=fun z hz=> by subst hz;exact⟨h1,h2,h3,Int.toNat_natCast _⟩
   generalize hzz:((s.length:Nat):Int)=z;obtain⟨z1,z2,z3,z4⟩:=hz1 z hzz
   conv=> arg 2;whnf
   rw[show(IntKind.i64,z).snd.decLt 0=isFalse z1 from Subsingleton.elim _ _]
   conv=> arg 2;whnf
   rw[show IntKind.i64.max.decLt (IntKind.i64,z).snd=isFalse z2 from Subsingleton.elim _ _]
   conv=> arg 2;whnf
   rw[show(IntKind.i64,z).snd.instDecidableEq 0=isFalse z3 from Subsingleton.elim _ _];refine vwp_bind (elemOf t) _ (vwp_bind (underlying t) _ (vwp_underlying ht ?_));refine vwp_bind (variablesAt ⟨blk,0,none⟩ e z.toNat) _ ?_;rw[z4];refine⟨true,_,_,_,hb,?_⟩;show vwp P (if liesAt P P.depth eb ((bytesV s++jj).length/P.cellsOf eb) 0 e s.length=true then _ else _) H _;rw[if_pos hlies];refine vwp_bind (loadBytes ⟨blk,0,none⟩ .empty s.length) _ ?_;refine vwp_loadBytes blk hb s [] 0 (fun i x hx=> ?_) ?_
   · rw[Nat.zero_add,List.getElem?_append_left (by rw[bytesV_len];exact(List.getElem?_eq_some_iff.1 hx).1)];unfold bytesV;rw[List.getElem?_map,hx];rfl
   · refine⟨by omega,_,_,_,hb,?_⟩;refine⟨_,rfl,_,hst.set hL _,?_⟩;have e1:(if((0:Nat),(0:Nat)).1==((0:Nat),(0:Nat)).2 then(0,0+s.length) else(min ((0:Nat),(0:Nat)).1 0,max ((0:Nat),(0:Nat)).2 (0+s.length)))=(0,s.length):=by simp
     show K ((d,strV s)::R) (L.set j (blk,true,.cells ⟨bytesV s++jj⟩ eb (if((0:Nat),(0:Nat)).1==((0:Nat),(0:Nat)).2 then(0,0+s.length) else(min ((0:Nat),(0:Nat)).1 0,max ((0:Nat),(0:Nat)).2 (0+s.length)))));rw[e1];exact hk
end
end Go.RL
namespace Go.Proofs.YtldmfjcgjdchcaaGreatDoor
open Go.RL Go.Proofs.Tryz
set_option maxRecDepth 10000
theorem row_bytes(fits:TypeId→Bool)(hf:fits 5=true)(k count n:Nat)(h:n≤count):rowAt prog fits (k+1) 5 count 0 n=true:=by
 have hc:prog.cellsOf 5=1:=by kernel_rfl
 unfold rowAt;simp only[hc];simp[h,hf]
theorem lies_bytes(count n:Nat)(h:n≤count):liesAt prog prog.depth 5 (count/prog.cellsOf 5) 0 5 n=true:=by
 have hc:prog.cellsOf 5=1:=by kernel_rfl
 obtain⟨k,hk⟩:∃k,prog.depth=k+1:=⟨prog.depth-1,by
   have:1≤prog.depth:=Nat.le_of_ble_eq_true (by kernel_rfl);omega⟩
 have hf:sameLayout prog prog.depth 5 5=true:=by kernel_rfl
 have h1:=row_bytes (fun t=> sameLayout prog prog.depth t 5) hf k count n h;rw[hc,Nat.div_one];show liesAt prog prog.depth 5 count 0 5 n=true;rw[hk] at h1 ⊢;show(rowAt prog (fun t=> sameLayout prog prog.depth t 5) prog.depth 5 count 0 n||_)=true;rw[hk,h1];rfl
theorem ptr_byte:prog.underlying 275=some (.pointer 5):=by kernel_rfl
end Go.Proofs.YtldmfjcgjdchcaaGreatDoor
namespace Go.RL
section
variable {P:Program}{E:Env P}{M:Md P}{n:Nat}{H₀:View}{R:Rg}{L:Bl}{K:Rg→Bl→Prop}{o:Oper}{d:Nat}
end
end Go.RL
