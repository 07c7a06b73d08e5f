/-
  Texts of the proofs over baudot/dial: K6 K7 K8 K9 KA KB KC C9 S9 OA X1 Z1 Z2 Z3 Z8 Z9 X2 ZA Y1 Y2 Y3.
-/
import Derived.Test.YtdnfdeplcjaonaaGreatDoorH06
namespace Go.Proofs.YtdnfdeplcjaonaaGreatDoor
open Go.RL Go.Proofs.Tryz
set_option maxRecDepth 10000
set_option maxHeartbeats 16000000
section
variable(M:Md prog)(H:View)
theorem partitionS_c(dec:Int→List UInt8)(sb:Nat)(l:List Int)(jj:List Value)(n cap a b pv:Nat)(hn:n=l.length)(hE:Enc dec l)(hb:b≤n)(h1000:n≤100000000)(hp:a≤pv∧pv<b)(hS:H sb=some (true,.cells ⟨(strsL dec l)++jj⟩ 9 (0,0))):
   CallT M 206 #[.slice (some ⟨sb,0,none⟩) n cap,.int .i64 (a:Nat),.int .i64 (b:Nat),.int .i64 (pv:Nat)] H (SortSQ dec H sb jj (fun v m=> ∃s:Nat×Bool×List Int,v=.tuple ⟨[.int .i64 (s.1:Nat),.bool s.2.1]⟩∧m=s.2.2∧(Turned a b l s.2.2∧Part a b s.1 s.2.2))):=by
 refine CallT.enter (vs:= [.slice (some ⟨sb,0,none⟩) n cap,.int .i64 (a:Nat),.int .i64 (b:Nat),.int .i64 (pv:Nat)]) func206 rfl ntmps206 (Nat.le_of_ble_eq_true rfl) (SymSt.pull hS) fun St c cs hK=> ?_;obtain⟨u,hue⟩:∃u,swapL l a pv=u:=⟨_,rfl⟩
 have hu:Turned a b l u:=by rw[←hue];exact Turned.swap (by omega) (by omega) (by omega) (by omega)
 have hul:=hu.len;have hEu:=hE.turned hu;have hst:=Pti.start (a:=a) (b:=b) (u:=u) (by omega);have eb:((b:Nat):Int)-1=((b-1:Nat):Int):=by omega
 have y1:=cellsS_ld (dec:=dec) (m:=l) (j:=jj) (k:=(a:Nat)) (p:=a) rfl (by omega);have y2:=cellsS_ld (dec:=dec) (m:=l) (j:=jj) (k:=(pv:Nat)) (p:=pv) rfl (by omega);have y3:=cellsS_st (dec:=dec) (m:=l) (j:=jj) (k:=(a:Nat)) (x:=at0 l (pv)) (p:=a) rfl (by omega);have y4:=cellsS_st (dec:=dec) (m:=(l).set (a) (at0 l (pv))) (j:=jj) (k:=(pv:Nat)) (x:=at0 l (a)) (p:=pv) rfl (by rw[List.length_set];omega);have y5:=cellsS_le (dec:=dec) (m:=l) (j:=jj) (k:=(a:Nat)) (p:=a) rfl (by omega);have y6:=cellsS_le (dec:=dec) (m:=(l).set (a) (at0 l (pv))) (j:=jj) (k:=(pv:Nat)) (p:=pv) rfl (by rw[List.length_set];omega);refine U6 ?_;refine Tc.dr [13,15] [0] mixed rfl ?_;refine .nn 0 ?_;refine .nn 1 ?_;refine .nw 2 ?_;refine .nw 3 ?_;refine .nn 4 ?_;refine .nn 5 ?_;refine .nn 6 ?_;refine .nn 7 ?_;refine .nw 8 ?_;refine .nw 9 ?_;refine .nw 10 ?_;refine .nn 11 ?_;refine .nn 12 ?_;refine .e 13 0 ?_;refine .nw 14 ?_;refine .e 15 0 ?_;refine .dn ?_;refine U9 ?_;rw[eb];refine Tc.db (R':= [(0,.slice (some ⟨sb,0,none⟩) n cap),(1,.int .i64 (a:Nat)),(10,.int .i64 (a+1:Nat)),(11,.int .i64 (b-1:Nat))]) (L':= [(sb,true,.cells ⟨(strsL dec (swapL l a pv))++jj⟩ 9 (0,0))]) ?_;rw[hue];refine U ?_;refine blockVia (fun R' L'=> ∃s,a+1≤s∧Pti a b s (b-1) u∧(s≤b-1→¬at0 u s<at0 u a)∧AllIn [(0,.slice (some ⟨sb,0,none⟩) n cap),(1,.int .i64 (a:Nat)),(10,.int .i64 (s:Nat)),(11,.int .i64 (b-1:Nat))] R'∧L'= [(sb,true,.cells ⟨(strsL dec u)++jj⟩ 9 (0,0))]) ?_ (fun fin=> ?_)
 · rintro R' _ ⟨i1,i1le,o1,y1,hRR,rfl⟩;refine Tc.dropB ?_ hRR (List.Sublist.refl _);have o1a:=o1.ai;have o1b:=o1.ij;have o1c:=o1.jb;refine U ?_;refine blockVia (fun R' L'=> ∃s,s≤b-1∧Pti a b (i1) s u∧(i1≤s→at0 u s<at0 u a)∧AllIn [(0,.slice (some ⟨sb,0,none⟩) n cap),(1,.int .i64 (a:Nat)),(10,.int .i64 (i1:Nat)),(11,.int .i64 (s:Nat))] R'∧L'= [(sb,true,.cells ⟨(strsL dec u)++jj⟩ 9 (0,0))]) ?_ (fun fin=> ?_)
   · rintro R' _ ⟨j1,j1le,o2,y2,hRR,rfl⟩;refine Tc.dropB ?_ hRR (List.Sublist.refl _);have o2a:=o2.ai;have o2b:=o2.ij;have o2c:=o2.jb;have o2d:=o2.aj;by_cases d:j1<i1
     · refine U9 ?_;have z1:=cellsS_ld (dec:=dec) (m:=u) (j:=jj) (k:=(j1:Nat)) (p:=j1) rfl (by omega);have z2:=cellsS_ld (dec:=dec) (m:=u) (j:=jj) (k:=(a:Nat)) (p:=a) rfl (by omega);have z3:=cellsS_st (dec:=dec) (m:=u) (j:=jj) (k:=(j1:Nat)) (x:=at0 u (a)) (p:=j1) rfl (by omega);have z4:=cellsS_st (dec:=dec) (m:=(u).set (j1) (at0 u (a))) (j:=jj) (k:=(a:Nat)) (x:=at0 u (j1)) (p:=a) rfl (by rw[List.length_set];omega);have z5:=cellsS_le (dec:=dec) (m:=u) (j:=jj) (k:=(j1:Nat)) (p:=j1) rfl (by omega);have z6:=cellsS_le (dec:=dec) (m:=(u).set (j1) (at0 u (a))) (j:=jj) (k:=(a:Nat)) (p:=a) rfl (by rw[List.length_set];omega);refine Tc.dr [13,15] [0] mixed rfl ?_;refine .nn 0 ?_;refine .nn 1 ?_;refine .nw 2 ?_;refine .nw 3 ?_;refine .nn 4 ?_;refine .nn 5 ?_;refine .nn 6 ?_;refine .nn 7 ?_;refine .nw 8 ?_;refine .nw 9 ?_;refine .nw 10 ?_;refine .nn 11 ?_;refine .nn 12 ?_;refine .e 13 0 ?_;refine .nw 14 ?_;refine .e 15 0 ?_;refine .dn ?_;refine U6 ?_;refine .rt hK func206 results206 [_,_] ?_;exact fun H' hs=> SortSQ.of (dec:=dec) hs (i:=0) rfl ⟨(j1,true,swapL u j1 a),rfl,rfl,hu.trans (Turned.swap (by omega) (by omega) (by omega) (by omega)),o2.fin (by omega) d⟩
     · have e2 :((j1:Nat):Int)-1=((j1-1:Nat):Int):=by omega
       have hsw:=o2.swap (by omega) (by omega) (y1 (by omega)) (y2 (by omega));refine U10 ?_;have z1:=cellsS_ld (dec:=dec) (m:=u) (j:=jj) (k:=(i1:Nat)) (p:=i1) rfl (by omega);have z2:=cellsS_ld (dec:=dec) (m:=u) (j:=jj) (k:=(j1:Nat)) (p:=j1) rfl (by omega);have z3:=cellsS_st (dec:=dec) (m:=u) (j:=jj) (k:=(i1:Nat)) (x:=at0 u (j1)) (p:=i1) rfl (by omega);have z4:=cellsS_st (dec:=dec) (m:=(u).set (i1) (at0 u (j1))) (j:=jj) (k:=(j1:Nat)) (x:=at0 u (i1)) (p:=j1) rfl (by rw[List.length_set];omega);have z5:=cellsS_le (dec:=dec) (m:=u) (j:=jj) (k:=(i1:Nat)) (p:=i1) rfl (by omega);have z6:=cellsS_le (dec:=dec) (m:=(u).set (i1) (at0 u (j1))) (j:=jj) (k:=(j1:Nat)) (p:=j1) rfl (by rw[List.length_set];omega);refine Tc.dr [13,15] [0] mixed rfl ?_;refine .nn 0 ?_;refine .nn 1 ?_;refine .nw 2 ?_;refine .nw 3 ?_;refine .nn 4 ?_;refine .nn 5 ?_;refine .nn 6 ?_;refine .nn 7 ?_;refine .nw 8 ?_;refine .nw 9 ?_;refine .nw 10 ?_;refine .nn 11 ?_;refine .nn 12 ?_;refine .e 13 0 ?_;refine .nw 14 ?_;refine .e 15 0 ?_;refine .dn ?_;refine U12 ?_;rw[e2];refine U2 ?_;refine Tc.db (Tc.loopInv (σ:= { s:Nat×Nat×List Int//Pti a b s.1 s.2.1 s.2.2∧Turned a b l s.2.2 }) (fun s=> ([(0,.slice (some ⟨sb,0,none⟩) n cap),(1,.int .i64 (a:Nat)),(10,.int .i64 (s.1.1:Nat)),(11,.int .i64 (s.1.2.1:Nat))],[(sb,true,.cells ⟨(strsL dec s.1.2.2)++jj⟩ 9 (0,0))])) (fun s=> s.1.2.1+1-s.1.1) ?_ ⟨(i1+1,j1-1,swapL u i1 j1),hsw.2,hu.trans (Turned.swap (by omega) (by omega) (by omega) (by omega))⟩);rintro⟨⟨i,j,w⟩,g1,g2⟩ ih0;simp only at g1 g2;have hwl:=g2.len;have hEu:=hE.turned g2;have g1a:=g1.ai;have g1b:=g1.ij;have g1c:=g1.jb;show Tc M St _ _ _ _ [(0,.slice (some ⟨sb,0,none⟩) n cap),(1,.int .i64 (a:Nat)),(10,.int .i64 (i:Nat)),(11,.int .i64 (j:Nat))] [(sb,true,.cells ⟨(strsL dec w)++jj⟩ 9 (0,0))] _ _;refine U2 ?_;refine blockVia (fun R' L'=> ∃s,i≤s∧Pti a b s (j) w∧(s≤j→¬at0 w s<at0 w a)∧AllIn [(0,.slice (some ⟨sb,0,none⟩) n cap),(1,.int .i64 (a:Nat)),(10,.int .i64 (s:Nat)),(11,.int .i64 (j:Nat))] R'∧L'= [(sb,true,.cells ⟨(strsL dec w)++jj⟩ 9 (0,0))]) ?_ (fun fin=> ?_)
       · rintro R' _ ⟨i2,i2le,p1,x1,hRR,rfl⟩;refine Tc.dropB ?_ hRR (List.Sublist.refl _);have p1a:=p1.ai;have p1b:=p1.ij;have p1c:=p1.jb;refine U ?_;refine blockVia (fun R' L'=> ∃s,s≤j∧Pti a b (i2) s w∧(i2≤s→at0 w s<at0 w a)∧AllIn [(0,.slice (some ⟨sb,0,none⟩) n cap),(1,.int .i64 (a:Nat)),(10,.int .i64 (i2:Nat)),(11,.int .i64 (s:Nat))] R'∧L'= [(sb,true,.cells ⟨(strsL dec w)++jj⟩ 9 (0,0))]) ?_ (fun fin=> ?_)
         · rintro R' _ ⟨j2,j2le,p2,x2,hRR,rfl⟩;refine Tc.dropB ?_ hRR (List.Sublist.refl _);have p2a:=p2.ai;have p2b:=p2.ij;have p2c:=p2.jb;have p2d:=p2.aj;by_cases d:j2<i2
           · refine U10 ?_;have z1:=cellsS_ld (dec:=dec) (m:=w) (j:=jj) (k:=(j2:Nat)) (p:=j2) rfl (by omega);have z2:=cellsS_ld (dec:=dec) (m:=w) (j:=jj) (k:=(a:Nat)) (p:=a) rfl (by omega);have z3:=cellsS_st (dec:=dec) (m:=w) (j:=jj) (k:=(j2:Nat)) (x:=at0 w (a)) (p:=j2) rfl (by omega);have z4:=cellsS_st (dec:=dec) (m:=(w).set (j2) (at0 w (a))) (j:=jj) (k:=(a:Nat)) (x:=at0 w (j2)) (p:=a) rfl (by rw[List.length_set];omega);have z5:=cellsS_le (dec:=dec) (m:=w) (j:=jj) (k:=(j2:Nat)) (p:=j2) rfl (by omega);have z6:=cellsS_le (dec:=dec) (m:=(w).set (j2) (at0 w (a))) (j:=jj) (k:=(a:Nat)) (p:=a) rfl (by rw[List.length_set];omega);refine Tc.dr [13,15] [0] mixed rfl ?_;refine .nn 0 ?_;refine .nn 1 ?_;refine .nw 2 ?_;refine .nw 3 ?_;refine .nn 4 ?_;refine .nn 5 ?_;refine .nn 6 ?_;refine .nn 7 ?_;refine .nw 8 ?_;refine .nw 9 ?_;refine .nw 10 ?_;refine .nn 11 ?_;refine .nn 12 ?_;refine .e 13 0 ?_;refine .nw 14 ?_;refine .e 15 0 ?_;refine .dn ?_;refine U6 ?_;refine .rt hK func206 results206 [_,_] ?_;exact fun H' hs=> SortSQ.of (dec:=dec) hs (i:=0) rfl ⟨(j2,false,swapL w j2 a),rfl,rfl,g2.trans (Turned.swap (by omega) (by omega) (by omega) (by omega)),p2.fin (by omega) d⟩
           · have hsw:=p2.swap (by omega) (by omega) (x1 (by omega)) (x2 (by omega));have e2:((j2:Nat):Int)-1=((j2-1:Nat):Int):=by omega
             refine U10 ?_;have z1:=cellsS_ld (dec:=dec) (m:=w) (j:=jj) (k:=(i2:Nat)) (p:=i2) rfl (by omega);have z2:=cellsS_ld (dec:=dec) (m:=w) (j:=jj) (k:=(j2:Nat)) (p:=j2) rfl (by omega);have z3:=cellsS_st (dec:=dec) (m:=w) (j:=jj) (k:=(i2:Nat)) (x:=at0 w (j2)) (p:=i2) rfl (by omega);have z4:=cellsS_st (dec:=dec) (m:=(w).set (i2) (at0 w (j2))) (j:=jj) (k:=(j2:Nat)) (x:=at0 w (i2)) (p:=j2) rfl (by rw[List.length_set];omega);have z5:=cellsS_le (dec:=dec) (m:=w) (j:=jj) (k:=(i2:Nat)) (p:=i2) rfl (by omega);have z6:=cellsS_le (dec:=dec) (m:=(w).set (i2) (at0 w (j2))) (j:=jj) (k:=(j2:Nat)) (p:=j2) rfl (by rw[List.length_set];omega);refine Tc.dr [13,15] [0] mixed rfl ?_;refine .nn 0 ?_;refine .nn 1 ?_;refine .nw 2 ?_;refine .nw 3 ?_;refine .nn 4 ?_;refine .nn 5 ?_;refine .nn 6 ?_;refine .nn 7 ?_;refine .nw 8 ?_;refine .nw 9 ?_;refine .nw 10 ?_;refine .nn 11 ?_;refine .nn 12 ?_;refine .e 13 0 ?_;refine .nw 14 ?_;refine .e 15 0 ?_;refine .dn ?_;refine U11 ?_;rw[e2];refine U ?_;exact Tc.db (ih0 ⟨(i2+1,j2-1,swapL w i2 j2),hsw.2,g2.trans (Turned.swap (by omega) (by omega) (by omega) (by omega))⟩ (by simp only;omega))
         · refine Tc.db (Tc.loopInv (σ:= { s:Nat//s≤j∧Pti a b (i2) s w }) (fun s=> ([(0,.slice (some ⟨sb,0,none⟩) n cap),(1,.int .i64 (a:Nat)),(10,.int .i64 (i2:Nat)),(11,.int .i64 (s.1:Nat))],[(sb,true,.cells ⟨(strsL dec w)++jj⟩ 9 (0,0))])) (fun s=> s.1) ?_ ⟨j,Nat.le_refl _,p1⟩);rintro⟨s,q1,q2⟩ ih;have q3:=q2.ai;have q4:=q2.ij;have q5:=q2.jb;show Tc M St _ _ _ _ [(0,.slice (some ⟨sb,0,none⟩) n cap),(1,.int .i64 (a:Nat)),(10,.int .i64 (i2:Nat)),(11,.int .i64 (s:Nat))] [(sb,true,.cells ⟨(strsL dec w)++jj⟩ 9 (0,0))] _ _;by_cases c1:i2≤s
           · have e1:((s:Nat):Int)-1=((s-1:Nat):Int):=by omega
             have k1:=cellsS_ld (dec:=dec) (m:=w) (j:=jj) (k:=(s:Nat)) (p:=s) rfl (by omega);have k2:=cellsS_ld (dec:=dec) (m:=w) (j:=jj) (k:=(a:Nat)) (p:=a) rfl (by omega);by_cases c2:at0 w s<at0 w a
             · refine U2 ?_;refine Tc.dr [] [] mixed rfl ?_;refine .nn 0 ?_;refine .nn 1 ?_;refine .nn 2 ?_;refine .nn 3 ?_;refine .nn 4 ?_;refine .nn 5 ?_;refine .nn 6 ?_;refine .nn 7 ?_;refine .nn 8 ?_;refine .nn 9 ?_;refine .nn 10 ?_;refine .nn 11 ?_;refine .z 12 rfl (OpV.takeCall rfl rfl rfl rfl (fun H hs=> .h (lessS M H hEu (at0_mem (by omega)) (at0_mem (by omega)) true (decide_eq_true c2)))) ?_;refine .nn 13 ?_;refine .nn 14 ?_;refine .dn ?_;refine U2 ?_;exact Tc.db (fin [(0,.slice (some ⟨sb,0,none⟩) n cap),(1,.int .i64 (a:Nat)),(10,.int .i64 (i2:Nat)),(11,.int .i64 (s:Nat))] [(sb,true,.cells ⟨(strsL dec w)++jj⟩ 9 (0,0))] ⟨s,q1,q2,fun _=> c2,⟨rfl,rfl,rfl,rfl,trivial⟩,rfl⟩)
             · refine U2 ?_;refine Tc.dr [] [] mixed rfl ?_;refine .nn 0 ?_;refine .nn 1 ?_;refine .nn 2 ?_;refine .nn 3 ?_;refine .nn 4 ?_;refine .nn 5 ?_;refine .nn 6 ?_;refine .nn 7 ?_;refine .nn 8 ?_;refine .nn 9 ?_;refine .nn 10 ?_;refine .nn 11 ?_;refine .z 12 rfl (OpV.takeCall rfl rfl rfl rfl (fun H hs=> .h (lessS M H hEu (at0_mem (by omega)) (at0_mem (by omega)) false (decide_eq_false c2)))) ?_;refine .nn 13 ?_;refine .nn 14 ?_;refine .dn ?_;refine U8 ?_;rw[e1];refine U ?_;exact Tc.db (ih ⟨s-1,by omega,q2.down c1 c2⟩ (by simp only;omega))
           · refine U2 ?_;refine Tc.dr [] [] mixed rfl ?_;refine .nn 0 ?_;refine .nn 1 ?_;refine .nn 2 ?_;refine .nn 3 ?_;refine .nw 4 ?_;refine .nw 5 ?_;refine .nw 6 ?_;refine .nw 7 ?_;refine .nw 8 ?_;refine .nw 9 ?_;refine .nw 10 ?_;refine .nw 11 ?_;refine .nw 12 ?_;refine .nw 13 ?_;refine .nn 14 ?_;refine .dn ?_;refine U2 ?_;exact Tc.db (fin [(0,.slice (some ⟨sb,0,none⟩) n cap),(1,.int .i64 (a:Nat)),(10,.int .i64 (i2:Nat)),(11,.int .i64 (s:Nat))] [(sb,true,.cells ⟨(strsL dec w)++jj⟩ 9 (0,0))] ⟨s,q1,q2,fun h=> absurd h c1,⟨rfl,rfl,rfl,rfl,trivial⟩,rfl⟩)
       · refine Tc.db (Tc.loopInv (σ:= { s:Nat//i≤s∧Pti a b s (j) w }) (fun s=> ([(0,.slice (some ⟨sb,0,none⟩) n cap),(1,.int .i64 (a:Nat)),(10,.int .i64 (s.1:Nat)),(11,.int .i64 (j:Nat))],[(sb,true,.cells ⟨(strsL dec w)++jj⟩ 9 (0,0))])) (fun s=> j+1-s.1) ?_ ⟨i,Nat.le_refl _,g1⟩);rintro⟨s,q1,q2⟩ ih;have q3:=q2.ai;have q4:=q2.ij;have q5:=q2.jb;show Tc M St _ _ _ _ [(0,.slice (some ⟨sb,0,none⟩) n cap),(1,.int .i64 (a:Nat)),(10,.int .i64 (s:Nat)),(11,.int .i64 (j:Nat))] [(sb,true,.cells ⟨(strsL dec w)++jj⟩ 9 (0,0))] _ _;by_cases c1:s≤j
         · have k1:=cellsS_ld (dec:=dec) (m:=w) (j:=jj) (k:=(s:Nat)) (p:=s) rfl (by omega);have k2:=cellsS_ld (dec:=dec) (m:=w) (j:=jj) (k:=(a:Nat)) (p:=a) rfl (by omega);by_cases c2:at0 w s<at0 w a
           · refine U2 ?_;refine Tc.dr [] [] mixed rfl ?_;refine .nn 0 ?_;refine .nn 1 ?_;refine .nn 2 ?_;refine .nn 3 ?_;refine .nn 4 ?_;refine .nn 5 ?_;refine .nn 6 ?_;refine .nn 7 ?_;refine .nn 8 ?_;refine .nn 9 ?_;refine .nn 10 ?_;refine .nn 11 ?_;refine .z 12 rfl (OpV.takeCall rfl rfl rfl rfl (fun H hs=> .h (lessS M H hEu (at0_mem (by omega)) (at0_mem (by omega)) true (decide_eq_true c2)))) ?_;refine .nn 13 ?_;refine .dn ?_;refine U9 ?_;exact Tc.db (ih ⟨s+1,by omega,q2.up c1 c2⟩ (by simp only;omega))
           · refine U2 ?_;refine Tc.dr [] [] mixed rfl ?_;refine .nn 0 ?_;refine .nn 1 ?_;refine .nn 2 ?_;refine .nn 3 ?_;refine .nn 4 ?_;refine .nn 5 ?_;refine .nn 6 ?_;refine .nn 7 ?_;refine .nn 8 ?_;refine .nn 9 ?_;refine .nn 10 ?_;refine .nn 11 ?_;refine .z 12 rfl (OpV.takeCall rfl rfl rfl rfl (fun H hs=> .h (lessS M H hEu (at0_mem (by omega)) (at0_mem (by omega)) false (decide_eq_false c2)))) ?_;refine .nn 13 ?_;refine .dn ?_;refine U2 ?_;exact Tc.db (fin [(0,.slice (some ⟨sb,0,none⟩) n cap),(1,.int .i64 (a:Nat)),(10,.int .i64 (s:Nat)),(11,.int .i64 (j:Nat))] [(sb,true,.cells ⟨(strsL dec w)++jj⟩ 9 (0,0))] ⟨s,q1,q2,fun _=> c2,⟨rfl,rfl,rfl,rfl,trivial⟩,rfl⟩)
         · refine U2 ?_;refine Tc.dr [] [] mixed rfl ?_;refine .nn 0 ?_;refine .nn 1 ?_;refine .nn 2 ?_;refine .nn 3 ?_;refine .nw 4 ?_;refine .nw 5 ?_;refine .nw 6 ?_;refine .nw 7 ?_;refine .nw 8 ?_;refine .nw 9 ?_;refine .nw 10 ?_;refine .nw 11 ?_;refine .nw 12 ?_;refine .nn 13 ?_;refine .dn ?_;refine U2 ?_;exact Tc.db (fin [(0,.slice (some ⟨sb,0,none⟩) n cap),(1,.int .i64 (a:Nat)),(10,.int .i64 (s:Nat)),(11,.int .i64 (j:Nat))] [(sb,true,.cells ⟨(strsL dec w)++jj⟩ 9 (0,0))] ⟨s,q1,q2,fun h=> absurd h c1,⟨rfl,rfl,rfl,rfl,trivial⟩,rfl⟩)
   · refine Tc.db (Tc.loopInv (σ:= { s:Nat//s≤b-1∧Pti a b (i1) s u }) (fun s=> ([(0,.slice (some ⟨sb,0,none⟩) n cap),(1,.int .i64 (a:Nat)),(10,.int .i64 (i1:Nat)),(11,.int .i64 (s.1:Nat))],[(sb,true,.cells ⟨(strsL dec u)++jj⟩ 9 (0,0))])) (fun s=> s.1) ?_ ⟨b-1,Nat.le_refl _,o1⟩);rintro⟨s,q1,q2⟩ ih;have q3:=q2.ai;have q4:=q2.ij;have q5:=q2.jb;show Tc M St _ _ _ _ [(0,.slice (some ⟨sb,0,none⟩) n cap),(1,.int .i64 (a:Nat)),(10,.int .i64 (i1:Nat)),(11,.int .i64 (s:Nat))] [(sb,true,.cells ⟨(strsL dec u)++jj⟩ 9 (0,0))] _ _;by_cases c1:i1≤s
     · have e1:((s:Nat):Int)-1=((s-1:Nat):Int):=by omega
       have k1:=cellsS_ld (dec:=dec) (m:=u) (j:=jj) (k:=(s:Nat)) (p:=s) rfl (by omega);have k2:=cellsS_ld (dec:=dec) (m:=u) (j:=jj) (k:=(a:Nat)) (p:=a) rfl (by omega);by_cases c2:at0 u s<at0 u a
       · refine U2 ?_;refine Tc.dr [] [] mixed rfl ?_;refine .nn 0 ?_;refine .nn 1 ?_;refine .nn 2 ?_;refine .nn 3 ?_;refine .nn 4 ?_;refine .nn 5 ?_;refine .nn 6 ?_;refine .nn 7 ?_;refine .nn 8 ?_;refine .nn 9 ?_;refine .nn 10 ?_;refine .nn 11 ?_;refine .z 12 rfl (OpV.takeCall rfl rfl rfl rfl (fun H hs=> .h (lessS M H hEu (at0_mem (by omega)) (at0_mem (by omega)) true (decide_eq_true c2)))) ?_;refine .nn 13 ?_;refine .nn 14 ?_;refine .dn ?_;refine U2 ?_;exact Tc.db (fin [(0,.slice (some ⟨sb,0,none⟩) n cap),(1,.int .i64 (a:Nat)),(10,.int .i64 (i1:Nat)),(11,.int .i64 (s:Nat))] [(sb,true,.cells ⟨(strsL dec u)++jj⟩ 9 (0,0))] ⟨s,q1,q2,fun _=> c2,⟨rfl,rfl,rfl,rfl,trivial⟩,rfl⟩)
       · refine U2 ?_;refine Tc.dr [] [] mixed rfl ?_;refine .nn 0 ?_;refine .nn 1 ?_;refine .nn 2 ?_;refine .nn 3 ?_;refine .nn 4 ?_;refine .nn 5 ?_;refine .nn 6 ?_;refine .nn 7 ?_;refine .nn 8 ?_;refine .nn 9 ?_;refine .nn 10 ?_;refine .nn 11 ?_;refine .z 12 rfl (OpV.takeCall rfl rfl rfl rfl (fun H hs=> .h (lessS M H hEu (at0_mem (by omega)) (at0_mem (by omega)) false (decide_eq_false c2)))) ?_;refine .nn 13 ?_;refine .nn 14 ?_;refine .dn ?_;refine U8 ?_;rw[e1];refine U ?_;exact Tc.db (ih ⟨s-1,by omega,q2.down c1 c2⟩ (by simp only;omega))
     · refine U2 ?_;refine Tc.dr [] [] mixed rfl ?_;refine .nn 0 ?_;refine .nn 1 ?_;refine .nn 2 ?_;refine .nn 3 ?_;refine .nw 4 ?_;refine .nw 5 ?_;refine .nw 6 ?_;refine .nw 7 ?_;refine .nw 8 ?_;refine .nw 9 ?_;refine .nw 10 ?_;refine .nw 11 ?_;refine .nw 12 ?_;refine .nw 13 ?_;refine .nn 14 ?_;refine .dn ?_;refine U2 ?_;exact Tc.db (fin [(0,.slice (some ⟨sb,0,none⟩) n cap),(1,.int .i64 (a:Nat)),(10,.int .i64 (i1:Nat)),(11,.int .i64 (s:Nat))] [(sb,true,.cells ⟨(strsL dec u)++jj⟩ 9 (0,0))] ⟨s,q1,q2,fun h=> absurd h c1,⟨rfl,rfl,rfl,rfl,trivial⟩,rfl⟩)
 · refine Tc.db (Tc.loopInv (σ:= { s:Nat//a+1≤s∧Pti a b s (b-1) u }) (fun s=> ([(0,.slice (some ⟨sb,0,none⟩) n cap),(1,.int .i64 (a:Nat)),(10,.int .i64 (s.1:Nat)),(11,.int .i64 (b-1:Nat))],[(sb,true,.cells ⟨(strsL dec u)++jj⟩ 9 (0,0))])) (fun s=> b-1+1-s.1) ?_ ⟨a+1,Nat.le_refl _,hst⟩);rintro⟨s,q1,q2⟩ ih;have q3:=q2.ai;have q4:=q2.ij;have q5:=q2.jb;show Tc M St _ _ _ _ [(0,.slice (some ⟨sb,0,none⟩) n cap),(1,.int .i64 (a:Nat)),(10,.int .i64 (s:Nat)),(11,.int .i64 (b-1:Nat))] [(sb,true,.cells ⟨(strsL dec u)++jj⟩ 9 (0,0))] _ _;by_cases c1:s≤b-1
   · have k1:=cellsS_ld (dec:=dec) (m:=u) (j:=jj) (k:=(s:Nat)) (p:=s) rfl (by omega);have k2:=cellsS_ld (dec:=dec) (m:=u) (j:=jj) (k:=(a:Nat)) (p:=a) rfl (by omega);by_cases c2:at0 u s<at0 u a
     · refine U2 ?_;refine Tc.dr [] [] mixed rfl ?_;refine .nn 0 ?_;refine .nn 1 ?_;refine .nn 2 ?_;refine .nn 3 ?_;refine .nn 4 ?_;refine .nn 5 ?_;refine .nn 6 ?_;refine .nn 7 ?_;refine .nn 8 ?_;refine .nn 9 ?_;refine .nn 10 ?_;refine .nn 11 ?_;refine .z 12 rfl (OpV.takeCall rfl rfl rfl rfl (fun H hs=> .h (lessS M H hEu (at0_mem (by omega)) (at0_mem (by omega)) true (decide_eq_true c2)))) ?_;refine .nn 13 ?_;refine .dn ?_;refine U9 ?_;exact Tc.db (ih ⟨s+1,by omega,q2.up c1 c2⟩ (by simp only;omega))
     · refine U2 ?_;refine Tc.dr [] [] mixed rfl ?_;refine .nn 0 ?_;refine .nn 1 ?_;refine .nn 2 ?_;refine .nn 3 ?_;refine .nn 4 ?_;refine .nn 5 ?_;refine .nn 6 ?_;refine .nn 7 ?_;refine .nn 8 ?_;refine .nn 9 ?_;refine .nn 10 ?_;refine .nn 11 ?_;refine .z 12 rfl (OpV.takeCall rfl rfl rfl rfl (fun H hs=> .h (lessS M H hEu (at0_mem (by omega)) (at0_mem (by omega)) false (decide_eq_false c2)))) ?_;refine .nn 13 ?_;refine .dn ?_;refine U2 ?_;exact Tc.db (fin [(0,.slice (some ⟨sb,0,none⟩) n cap),(1,.int .i64 (a:Nat)),(10,.int .i64 (s:Nat)),(11,.int .i64 (b-1:Nat))] [(sb,true,.cells ⟨(strsL dec u)++jj⟩ 9 (0,0))] ⟨s,q1,q2,fun _=> c2,⟨rfl,rfl,rfl,rfl,trivial⟩,rfl⟩)
   · refine U2 ?_;refine Tc.dr [] [] mixed rfl ?_;refine .nn 0 ?_;refine .nn 1 ?_;refine .nn 2 ?_;refine .nn 3 ?_;refine .nw 4 ?_;refine .nw 5 ?_;refine .nw 6 ?_;refine .nw 7 ?_;refine .nw 8 ?_;refine .nw 9 ?_;refine .nw 10 ?_;refine .nw 11 ?_;refine .nw 12 ?_;refine .nn 13 ?_;refine .dn ?_;refine U2 ?_;exact Tc.db (fin [(0,.slice (some ⟨sb,0,none⟩) n cap),(1,.int .i64 (a:Nat)),(10,.int .i64 (s:Nat)),(11,.int .i64 (b-1:Nat))] [(sb,true,.cells ⟨(strsL dec u)++jj⟩ 9 (0,0))] ⟨s,q1,q2,fun h=> absurd h c1,⟨rfl,rfl,rfl,rfl,trivial⟩,rfl⟩)
end
section
variable(M:Md prog)(H:View)
theorem partialS_c (dec:Int→List UInt8)(sb:Nat)(l:List Int)(jj:List Value)(n cap a b:Nat)(hn:n=l.length)(hE:Enc dec l)(hb:b≤n)(h1000:n≤100000000)(hab:a<b)(hah:Ahead a b l)(hS:H sb=some (true,.cells ⟨(strsL dec l)++jj⟩ 9 (0,0))):
   CallT M 203 #[.slice (some ⟨sb,0,none⟩) n cap,.int .i64 (a:Nat),.int .i64 (b:Nat)] H (SortSQ dec H sb jj (fun v m=> ∃t:Bool,v=.bool t∧Turned a b l m∧(t=true→Srt a b m))):=by
 refine CallT.enter (vs:= [.slice (some ⟨sb,0,none⟩) n cap,.int .i64 (a:Nat),.int .i64 (b:Nat)]) func203 rfl ntmps203 (Nat.le_of_ble_eq_true rfl) (SymSt.pull hS) fun St c cs hK=> ?_;have ea:intBin .add .i64 (a:Nat) 1=some (.int .i64 ((a+1:Nat):Int)):=by rw[add_in (by omega) (by omega)];rfl
 refine U16 ?_;refine Tc.db (Tc.loopInv (σ:= { s:Nat×Nat×List Int//a+1≤s.1∧s.1≤b∧s.2.1≤5∧Turned a b l s.2.2∧Srt a s.1 s.2.2 }) (fun s=> ([(0,.slice (some ⟨sb,0,none⟩) n cap),(1,.int .i64 (a:Nat)),(2,.int .i64 (b:Nat)),(7,.int .i64 (s.1.1:Nat)),(8,.int .i64 (s.1.2.1:Nat))],[(sb,true,.cells ⟨(strsL dec s.1.2.2)++jj⟩ 9 (0,0))])) (fun s=> 5-s.1.2.1) ?_
   ⟨(a+1,0,l),Nat.le_refl _,by simp only;omega,Nat.zero_le _,Turned.refl ..,fun p q h1 h2 h3=> by simp only at h3;omega⟩)
 rintro⟨⟨i0,c0,u⟩,f1,f2,f3,f4,f5⟩ ih;simp only at f1 f2 f3 f4 f5;have hul:=f4.len;have hEu:=hE.turned f4;have hau:=hah.turn f4 (by omega);show Tc M St _ _ _ _ [(0,.slice (some ⟨sb,0,none⟩) n cap),(1,.int .i64 (a:Nat)),(2,.int .i64 (b:Nat)),(7,.int .i64 (i0:Nat)),(8,.int .i64 (c0:Nat))] [(sb,true,.cells ⟨(strsL dec u)++jj⟩ 9 (0,0))] _ _;by_cases d0:c0<5
 · have ec : intBin .add .i64 (c0:Nat) 1=some (.int .i64 ((c0+1:Nat):Int)):=by rw[add_in (by omega) (by omega)];rfl
   refine U12 ?_;refine Tc.db (Tc.loopInv (σ:= { i:Nat//a+1≤i∧i≤b∧Srt a i u }) (fun i=> ([(0,.slice (some ⟨sb,0,none⟩) n cap),(1,.int .i64 (a:Nat)),(2,.int .i64 (b:Nat)),(7,.int .i64 (i.1:Nat)),(8,.int .i64 (c0:Nat))],[(sb,true,.cells ⟨(strsL dec u)++jj⟩ 9 (0,0))])) (fun i=> b-i.1) ?_ ⟨i0,f1,f2,f5⟩);rintro⟨i,g1,g2,g3⟩ ih2;show Tc M St _ _ _ _ [(0,.slice (some ⟨sb,0,none⟩) n cap),(1,.int .i64 (a:Nat)),(2,.int .i64 (b:Nat)),(7,.int .i64 (i:Nat)),(8,.int .i64 (c0:Nat))] [(sb,true,.cells ⟨(strsL dec u)++jj⟩ 9 (0,0))] _ _;by_cases d1:i<b
   · have e1 : ((i : Nat):Int)-1=((i-1:Nat):Int):=by omega
     have k1:=cellsS_ld (dec:=dec) (m:=u) (j:=jj) (k:=(i:Nat)) (p:=i) rfl (by omega);have k2:=cellsS_ld (dec:=dec) (m:=u) (j:=jj) (k:=(i:Nat)-1) (p:=i-1) e1 (by omega);by_cases d2:at0 u i<at0 u (i-1)
     · clear ih2;by_cases d3:b<a+50
       · refine U2 ?_;refine Tc.dr [] [] mixed rfl ?_;refine .nn 0 ?_;refine .nn 1 ?_;refine .nn 2 ?_;refine .nn 3 ?_;refine .nn 4 ?_;refine .nn 5 ?_;refine .nn 6 ?_;refine .nn 7 ?_;refine .nn 8 ?_;refine .nn 9 ?_;refine .nn 10 ?_;refine .nn 11 ?_;refine .nn 12 ?_;refine .z 13 rfl (OpV.takeCall rfl rfl rfl rfl (fun H hs=> .h (lessS M H hEu (at0_mem (by omega)) (at0_mem (by omega)) true (decide_eq_true d2)))) ?_;refine .nn 14 ?_;refine .nn 15 ?_;refine .dn ?_;refine U24 ?_;refine .rt hK func203 results203 [_] ?_;exact fun H' hs=> SortSQ.of (dec:=dec) hs (i:=0) rfl ⟨false,rfl,f4,fun h=> nomatch h⟩
       · have s1 :=cellsS_st (dec:=dec) (m:=u) (j:=jj) (k:=(i:Nat)) (x:=at0 u (i-1)) (p:=i) rfl (by omega);have s2:=cellsS_st (dec:=dec) (m:=u.set i (at0 u (i-1))) (j:=jj) (k:=(i:Nat)-1) (x:=at0 u i) (p:=i-1) e1 (by rw[List.length_set];omega);have l1:=cellsS_le (dec:=dec) (m:=u) (j:=jj) (k:=(i:Nat)) (p:=i) rfl (by omega);have l2:=cellsS_le (dec:=dec) (m:=u.set i (at0 u (i-1))) (j:=jj) (k:=(i:Nat)-1) (p:=i-1) e1 (by rw[List.length_set];omega);refine U2 ?_;refine Tc.dr [] [] mixed rfl ?_;refine .nn 0 ?_;refine .nn 1 ?_;refine .nn 2 ?_;refine .nn 3 ?_;refine .nn 4 ?_;refine .nn 5 ?_;refine .nn 6 ?_;refine .nn 7 ?_;refine .nn 8 ?_;refine .nn 9 ?_;refine .nn 10 ?_;refine .nn 11 ?_;refine .nn 12 ?_;refine .z 13 rfl (OpV.takeCall rfl rfl rfl rfl (fun H hs=> .h (lessS M H hEu (at0_mem (by omega)) (at0_mem (by omega)) true (decide_eq_true d2)))) ?_;refine .nn 14 ?_;refine .nn 15 ?_;refine .dn ?_;refine U22 ?_;refine Tc.dr [15,17] [0] mixed rfl ?_;refine .nn 0 ?_;refine .nn 1 ?_;refine .nw 2 ?_;refine .nw 3 ?_;refine .nw 4 ?_;refine .nn 5 ?_;refine .nn 6 ?_;refine .nn 7 ?_;refine .nn 8 ?_;refine .nn 9 ?_;refine .nw 10 ?_;refine .nw 11 ?_;refine .nw 12 ?_;refine .nn 13 ?_;refine .nn 14 ?_;refine .e 15 0 ?_;refine .nw 16 ?_;refine .e 17 0 ?_;refine .dn ?_;refine Tc.db (R':= [(0,.slice (some ⟨sb,0,none⟩) n cap),(1,.int .i64 (a:Nat)),(2,.int .i64 (b:Nat)),(7,.int .i64 (i:Nat)),(8,.int .i64 (c0:Nat))]) (L':= [(sb,true,.cells ⟨(strsL dec (swapL u i (i-1)))++jj⟩ 9 (0,0))]) ?_;have hx:Turned a b l (swapL u i (i-1)):=f4.trans (Turned.swap (by omega) (by omega) (by omega) (by omega));have hgap:∀p q,a≤p→p<q→q≤i-1→q≠i-1→at0 (swapL u i (i-1)) p≤at0 (swapL u i (i-1)) q:=fun p q h1 h2 h3 h4=> by
           rw[swapL_at (by omega) (by omega),swapL_at (by omega) (by omega),if_neg (by omega),if_neg (by omega),if_neg (by omega),if_neg (by omega)];exact g3 p q h1 h2 (by omega)
         generalize swapL u i (i-1)=x at hx hgap;clear k1 k2 s1 s2 l1 l2 d2 g3 hau hEu hul;have hxl:=hx.len;refine U ?_;refine Tc.via (fun R' L'=> ∃w,Turned a b l w∧Srt a i w∧AllIn [(0,.slice (some ⟨sb,0,none⟩) n cap),(1,.int .i64 (a:Nat)),(2,.int .i64 (b:Nat)),(7,.int .i64 (i:Nat)),(8,.int .i64 (c0:Nat))] R'∧L'= [(sb,true,.cells ⟨(strsL dec w)++jj⟩ 9 (0,0))]) ?_ (fun fin=> ?_)
         rotate_left
         · by_cases d4 :a+2≤i
           · refine U14 ?_;rw[e1];refine U ?_;refine Tc.db (Tc.loopInv (σ:= { s:Nat×List Int//a≤s.1∧s.1<i∧Turned a b l s.2∧∀p q,a≤p→p<q→q≤i-1→q≠s.1→at0 s.2 p≤at0 s.2 q }) (fun s=> ([(0,.slice (some ⟨sb,0,none⟩) n cap),(1,.int .i64 (a:Nat)),(2,.int .i64 (b:Nat)),(7,.int .i64 (i:Nat)),(8,.int .i64 (c0:Nat)),(9,.int .i64 (s.1.1:Nat))],[(sb,true,.cells ⟨(strsL dec s.1.2)++jj⟩ 9 (0,0))])) (fun s=> s.1.1) ?_
               ⟨(i-1,x),by simp only;omega,by simp only;omega,hx,hgap⟩)
             rintro⟨⟨j,w⟩,p1,p2,p3,p4⟩ ih3;simp only at p1 p2 p3 p4;have hwl:=p3.len;have hEw:=hE.turned p3;have haw:=hah.turn p3 (by omega);show Tc M St _ _ _ _ [(0,.slice (some ⟨sb,0,none⟩) n cap),(1,.int .i64 (a:Nat)),(2,.int .i64 (b:Nat)),(7,.int .i64 (i:Nat)),(8,.int .i64 (c0:Nat)),(9,.int .i64 (j:Nat))] [(sb,true,.cells ⟨(strsL dec w)++jj⟩ 9 (0,0))] _ _;have hsrt:(a<j→¬at0 w j<at0 w (j-1))→Srt a i w:=fun h=> by
               by_cases e:a<j
               · have:=ins_out (i:=i-1) p4 e (h e)
                 rwa [show i-1+1=i by omega] at this
               · exact fun p q h1 h2 h3=> p4 p q h1 h2 (by omega) (by omega)
             by_cases d5:1≤j
             · have e2 :((j:Nat):Int)-1=((j-1:Nat):Int):=by omega
               have y1:=cellsS_ld (dec:=dec) (m:=w) (j:=jj) (k:=(j:Nat)) (p:=j) rfl (by omega);have y2:=cellsS_ld (dec:=dec) (m:=w) (j:=jj) (k:=(j:Nat)-1) (p:=j-1) e2 (by omega);by_cases d6:at0 w j<at0 w (j-1)
               · have haj:a<j:=by
                   rcases haw with h|h
                   · omega
                   · by_cases e:a<j
                     · exact e
                     · have e3:j=a:=by omega
                       subst e3;have:=h j (Nat.le_refl _) (by omega);omega
                 have t1:=cellsS_st (dec:=dec) (m:=w) (j:=jj) (k:=(j:Nat)) (x:=at0 w (j-1)) (p:=j) rfl (by omega);have t2:=cellsS_st (dec:=dec) (m:=w.set j (at0 w (j-1))) (j:=jj) (k:=(j:Nat)-1) (x:=at0 w j) (p:=j-1) e2 (by rw[List.length_set];omega);have m1:=cellsS_le (dec:=dec) (m:=w) (j:=jj) (k:=(j:Nat)) (p:=j) rfl (by omega);have m2:=cellsS_le (dec:=dec) (m:=w.set j (at0 w (j-1))) (j:=jj) (k:=(j:Nat)-1) (p:=j-1) e2 (by rw[List.length_set];omega);refine U12 ?_;refine Tc.dr [] [] mixed rfl ?_;refine .nn 0 ?_;refine .nn 1 ?_;refine .nn 2 ?_;refine .nn 3 ?_;refine .nn 4 ?_;refine .nn 5 ?_;refine .nn 6 ?_;refine .nn 7 ?_;refine .nn 8 ?_;refine .z 9 rfl (OpV.takeCall rfl rfl rfl rfl (fun H hs=> .h (lessS M H hEw (at0_mem (by omega)) (at0_mem (by omega)) true (decide_eq_true d6)))) ?_;refine .nn 10 ?_;refine .dn ?_;refine U2 ?_;refine Tc.dr [15,17] [0] mixed rfl ?_;refine .nn 0 ?_;refine .nn 1 ?_;refine .nw 2 ?_;refine .nw 3 ?_;refine .nw 4 ?_;refine .nn 5 ?_;refine .nn 6 ?_;refine .nn 7 ?_;refine .nn 8 ?_;refine .nn 9 ?_;refine .nw 10 ?_;refine .nw 11 ?_;refine .nw 12 ?_;refine .nn 13 ?_;refine .nn 14 ?_;refine .e 15 0 ?_;refine .nw 16 ?_;refine .e 17 0 ?_;refine .dn ?_;refine U6 ?_;rw[e2];exact Tc.db (ih3 ⟨(j-1,swapL w j (j-1)),by simp only;omega,by simp only;omega,p3.trans (Turned.swap (by omega) (by omega) (by omega) (by omega)),ins_step (by omega) (by omega) p4 haj d6⟩ (by simp only;omega))
               · refine U12 ?_;refine Tc.dr [] [] mixed rfl ?_;refine .nn 0 ?_;refine .nn 1 ?_;refine .nn 2 ?_;refine .nn 3 ?_;refine .nn 4 ?_;refine .nn 5 ?_;refine .nn 6 ?_;refine .nn 7 ?_;refine .nn 8 ?_;refine .z 9 rfl (OpV.takeCall rfl rfl rfl rfl (fun H hs=> .h (lessS M H hEw (at0_mem (by omega)) (at0_mem (by omega)) false (decide_eq_false d6)))) ?_;refine .nn 10 ?_;refine .dn ?_;refine U2 ?_;exact fin _ _ ⟨w,p3,hsrt fun _=> d6,⟨rfl,rfl,rfl,rfl,rfl,trivial⟩,rfl⟩
             · repeat (refine Tc.seq ?_)
               refine U6 ?_;exact fin _ _ ⟨w,p3,hsrt fun h=> by omega,⟨rfl,rfl,rfl,rfl,rfl,trivial⟩,rfl⟩
           · have hi:i=a+1:=by omega
             refine U9 ?_;exact fin _ _ ⟨x,hx,fun p q h1 h2 h3=> by omega,⟨rfl,rfl,rfl,rfl,rfl,trivial⟩,rfl⟩
         rintro R' _ ⟨w0,p1,p2,hRR,rfl⟩;refine Tc.dropB ?_ hRR (List.Sublist.refl _);clear hRR hx hgap hxl x;have hwl:=p1.len;refine Tc.via (fun R' L'=> ∃w,Turned a b l w∧Srt a i w∧AllIn [(0,.slice (some ⟨sb,0,none⟩) n cap),(1,.int .i64 (a:Nat)),(2,.int .i64 (b:Nat)),(7,.int .i64 (i:Nat)),(8,.int .i64 (c0:Nat))] R'∧L'= [(sb,true,.cells ⟨(strsL dec w)++jj⟩ 9 (0,0))]) ?_ (fun fin=> ?_)
         · rintro R' _ ⟨w,o1,o2,hRR,rfl⟩;refine Tc.dropB ?_ hRR (List.Sublist.refl _);refine U6 ?_;exact Tc.db (ih ⟨(i,c0+1,w),g1,g2,by simp only;omega,o1,o2⟩ (by simp only;omega))
         · by_cases d4:i+2≤b
           · have ei:intBin .add .i64 (i:Nat) 1=some (.int .i64 ((i+1:Nat):Int)):=by rw[add_in (by omega) (by omega)];rfl
             refine U15 ?_;refine Tc.db (Tc.loopInv (σ:= { s:Nat×List Int//i+1≤s.1∧s.1≤b∧Turned a b l s.2∧Srt a i s.2 }) (fun s=> ([(0,.slice (some ⟨sb,0,none⟩) n cap),(1,.int .i64 (a:Nat)),(2,.int .i64 (b:Nat)),(7,.int .i64 (i:Nat)),(8,.int .i64 (c0:Nat)),(10,.int .i64 (s.1.1:Nat))],[(sb,true,.cells ⟨(strsL dec s.1.2)++jj⟩ 9 (0,0))])) (fun s=> b-s.1.1) ?_
               ⟨(i+1,w0),Nat.le_refl _,by simp only;omega,p1,p2⟩)
             rintro⟨⟨j,w⟩,q1,q2,q3,q4⟩ ih3;simp only at q1 q2 q3 q4;have hwl:=q3.len;have hEw:=hE.turned q3;show Tc M St _ _ _ _ [(0,.slice (some ⟨sb,0,none⟩) n cap),(1,.int .i64 (a:Nat)),(2,.int .i64 (b:Nat)),(7,.int .i64 (i:Nat)),(8,.int .i64 (c0:Nat)),(10,.int .i64 (j:Nat))] [(sb,true,.cells ⟨(strsL dec w)++jj⟩ 9 (0,0))] _ _;by_cases d5:j<b
             · have e2:((j:Nat):Int)-1=((j-1:Nat):Int):=by omega
               have y1:=cellsS_ld (dec:=dec) (m:=w) (j:=jj) (k:=(j:Nat)) (p:=j) rfl (by omega);have y2:=cellsS_ld (dec:=dec) (m:=w) (j:=jj) (k:=(j:Nat)-1) (p:=j-1) e2 (by omega);by_cases d6:at0 w j<at0 w (j-1)
               · have t1:=cellsS_st (dec:=dec) (m:=w) (j:=jj) (k:=(j:Nat)) (x:=at0 w (j-1)) (p:=j) rfl (by omega);have t2:=cellsS_st (dec:=dec) (m:=w.set j (at0 w (j-1))) (j:=jj) (k:=(j:Nat)-1) (x:=at0 w j) (p:=j-1) e2 (by rw[List.length_set];omega);have m1:=cellsS_le (dec:=dec) (m:=w) (j:=jj) (k:=(j:Nat)) (p:=j) rfl (by omega);have m2:=cellsS_le (dec:=dec) (m:=w.set j (at0 w (j-1))) (j:=jj) (k:=(j:Nat)-1) (p:=j-1) e2 (by rw[List.length_set];omega);have ej:intBin .add .i64 (j:Nat) 1=some (.int .i64 ((j+1:Nat):Int)):=by rw[add_in (by omega) (by omega)];rfl
                 refine U13 ?_;refine Tc.dr [] [] mixed rfl ?_;refine .nn 0 ?_;refine .nn 1 ?_;refine .nn 2 ?_;refine .nn 3 ?_;refine .nn 4 ?_;refine .nn 5 ?_;refine .nn 6 ?_;refine .nn 7 ?_;refine .nn 8 ?_;refine .z 9 rfl (OpV.takeCall rfl rfl rfl rfl (fun H hs=> .h (lessS M H hEw (at0_mem (by omega)) (at0_mem (by omega)) true (decide_eq_true d6)))) ?_;refine .nn 10 ?_;refine .dn ?_;refine U2 ?_;refine Tc.dr [15,17] [0] mixed rfl ?_;refine .nn 0 ?_;refine .nn 1 ?_;refine .nw 2 ?_;refine .nw 3 ?_;refine .nw 4 ?_;refine .nn 5 ?_;refine .nn 6 ?_;refine .nn 7 ?_;refine .nn 8 ?_;refine .nn 9 ?_;refine .nw 10 ?_;refine .nw 11 ?_;refine .nw 12 ?_;refine .nn 13 ?_;refine .nn 14 ?_;refine .e 15 0 ?_;refine .nw 16 ?_;refine .e 17 0 ?_;refine .dn ?_;refine U6 ?_;exact Tc.db (ih3 ⟨(j+1,swapL w j (j-1)),by simp only;omega,by simp only;omega,q3.trans (Turned.swap (by omega) (by omega) (by omega) (by omega)),srt_swap (by omega) (by omega) q4⟩ (by simp only;omega))
               · refine U13 ?_;refine Tc.dr [] [] mixed rfl ?_;refine .nn 0 ?_;refine .nn 1 ?_;refine .nn 2 ?_;refine .nn 3 ?_;refine .nn 4 ?_;refine .nn 5 ?_;refine .nn 6 ?_;refine .nn 7 ?_;refine .nn 8 ?_;refine .z 9 rfl (OpV.takeCall rfl rfl rfl rfl (fun H hs=> .h (lessS M H hEw (at0_mem (by omega)) (at0_mem (by omega)) false (decide_eq_false d6)))) ?_;refine .nn 10 ?_;refine .dn ?_;refine U2 ?_;exact fin _ _ ⟨w,q3,q4,⟨rfl,rfl,rfl,rfl,rfl,trivial⟩,rfl⟩
             · repeat (refine Tc.seq ?_)
               refine U7 ?_;exact fin _ _ ⟨w,q3,q4,⟨rfl,rfl,rfl,rfl,rfl,trivial⟩,rfl⟩
           · refine U9 ?_;exact fin _ _ ⟨w0,p1,p2,⟨rfl,rfl,rfl,rfl,rfl,trivial⟩,rfl⟩
     · have ei:intBin .add .i64 (i:Nat) 1=some (.int .i64 ((i+1:Nat):Int)):=by rw[add_in (by omega) (by omega)];rfl
       refine U2 ?_;refine Tc.dr [] [] mixed rfl ?_;refine .nn 0 ?_;refine .nn 1 ?_;refine .nn 2 ?_;refine .nn 3 ?_;refine .nn 4 ?_;refine .nn 5 ?_;refine .nn 6 ?_;refine .nn 7 ?_;refine .nn 8 ?_;refine .nn 9 ?_;refine .nn 10 ?_;refine .nn 11 ?_;refine .nn 12 ?_;refine .z 13 rfl (OpV.takeCall rfl rfl rfl rfl (fun H hs=> .h (lessS M H hEu (at0_mem (by omega)) (at0_mem (by omega)) false (decide_eq_false d2)))) ?_;refine .nn 14 ?_;refine .nn 15 ?_;refine .dn ?_;refine U9 ?_;exact Tc.db (ih2 ⟨i+1,by omega,by omega,srt_snoc g3 (by omega) d2⟩ (by simp only;omega))
   · refine U2 ?_;refine Tc.dr [] [] mixed rfl ?_;refine .nn 0 ?_;refine .nn 1 ?_;refine .nn 2 ?_;refine .nn 3 ?_;refine .nw 4 ?_;refine .nw 5 ?_;refine .nw 6 ?_;refine .nw 7 ?_;refine .nw 8 ?_;refine .nw 9 ?_;refine .nw 10 ?_;refine .nw 11 ?_;refine .nw 12 ?_;refine .nw 13 ?_;refine .nw 14 ?_;refine .nn 15 ?_;refine .dn ?_;refine U14 ?_;refine .rt hK func203 results203 [_] ?_;have hi:i=b:=by omega
     exact fun H' hs=> SortSQ.of (dec:=dec) hs (i:=0) rfl ⟨true,rfl,f4,fun _=> hi▸g3⟩
 · refine U12 ?_;refine .rt hK func203 results203 [_] ?_;exact fun H' hs=> SortSQ.of (dec:=dec) hs (i:=0) rfl ⟨false,rfl,f4,fun h=> nomatch h⟩
end
set_option maxHeartbeats 8000000
theorem bl_spec {x:Nat}(hx:0<x):x<2 ^ bl x∧2 ^ bl x≤2*x:=by
 unfold bl;rw[if_neg (by omega)];have h1:x<2 ^ (Nat.log2 x+1):=Nat.lt_log2_self;have h2:2 ^ Nat.log2 x≤x:=Nat.log2_self_le (by omega);refine⟨h1,?_⟩;rw[Nat.pow_succ];omega
theorem bl_only {x r:Nat}(hx:0<x)(h1:x<2 ^ r)(h2:2 ^ r≤2*x):bl x=r:=by
 obtain⟨h3,h4⟩:=bl_spec hx;have a1:2 ^ bl x<2 ^ (r+1):=by rw[Nat.pow_succ];omega
 have a2:2 ^ r<2 ^ (bl x+1):=by rw[Nat.pow_succ];omega
 have b1:=(Nat.pow_lt_pow_iff_right (a:=2) (by decide)).1 a1;have b2:=(Nat.pow_lt_pow_iff_right (a:=2) (by decide)).1 a2;omega
theorem bl_shift {x k:Nat}(hx:2 ^ k≤x):bl x=k+bl (x/2 ^ k):=by
 have hp:0<2 ^ k:=Nat.pow_pos (by decide);have hy:0<x/2 ^ k:=Nat.div_pos hx hp;obtain⟨h1,h2⟩:=bl_spec hy;refine bl_only (by omega) ?_ ?_
 · rw[Nat.pow_add];rw[Nat.mul_comm];exact(Nat.div_lt_iff_lt_mul hp).1 h1
 · rw[Nat.pow_add];have h3:2 ^ k*(x/2 ^ k)≤x:=Nat.mul_div_le x _
   calc 2 ^ k*2 ^ bl (x/2 ^ k)≤2 ^ k*(2*(x/2 ^ k)):=Nat.mul_le_mul_left _ h2
     _=2*(2 ^ k*(x/2 ^ k)):=by rw[Nat.mul_left_comm]
     _≤2*x:=Nat.mul_le_mul_left _ h3
theorem bl_tab:∀x:Nat,x<256→(UInt8.ofNat (bl x)).toNat=bl x∧bl x≤8:=by decide +kernel
theorem u8_tab:∀x:Nat,x<256→IntKind.u8.wrap (x:Int)=(x:Int):=by decide +kernel
theorem shr_nat {x k:Nat}(hk:k≤64):shiftV .shr .u64 (x:Nat) (k:Nat)=some (.int .u64 ((x/2 ^ k:Nat):Int)):=by
 have e:min ((k:Nat):Int).toNat IntKind.u64.bits=k:=by
   have:IntKind.u64.bits=64:=rfl;rw[this,Int.toNat_natCast];omega
 show some (Value.int .u64 (((x:Nat):Int).fdiv (2 ^ (min ((k:Nat):Int).toNat IntKind.u64.bits))))=_;rw[e]
 congr 2
 have:((2:Int) ^ k)=((2 ^ k:Nat):Int):=by norm_cast
 rw[this,Int.fdiv_eq_ediv_of_nonneg _ (Int.natCast_nonneg _)];rfl
section
variable(M:Md prog)(H:View)
theorem Len64G_c(x:Nat)(hx:x<4294967296):CallT M 208 #[.int .u64 (x:Nat)] H (fun v H'=> H.le H'∧v=.int .i64 (bl x:Nat)):=by
 refine .en func208 ntmps208 fun St c cs hK=> ?_;refine U13 ?_;refine Tc.via (fun R' L'=> ∃y s:Nat,y<65536∧s≤16∧bl x=s+bl y∧AllIn [(0,.int .u64 (y:Nat)),(2,.int .i64 (s:Nat))] R') ?_ (fun fin=> ?_)
 rotate_left
 · by_cases c1:65536≤x
   · have hsh:=shr_nat (x:=x) (k:=16) (by decide);refine U9 ?_;refine .x (OpV.shift rfl rfl rfl (by omega) hsh) ?_;refine U7 ?_;exact fin _ [] ⟨x/2 ^ 16,16,by omega,by omega,bl_shift (k:=16) c1,⟨rfl,rfl,trivial⟩⟩
   · refine U7 ?_;exact fin _ [] ⟨x,0,by omega,by omega,by omega,⟨rfl,rfl,trivial⟩⟩
 rintro R' L' ⟨y,s,hy,hs,hb,hR⟩;refine Tc.dropB (R':= [(0,.int .u64 (y:Nat)),(2,.int .i64 (s:Nat))]) (L':= []) ?_ hR (List.nil_sublist _);clear hR;refine U ?_;refine Tc.via (fun R' L'=> ∃y s:Nat,y<256∧s≤24∧bl x=s+bl y∧AllIn [(0,.int .u64 (y:Nat)),(2,.int .i64 (s:Nat))] R') ?_ (fun fin=> ?_)
 rotate_left
 · by_cases c1:256≤y
   · have hsh:=shr_nat (x:=y) (k:=8) (by decide);have e8:intBin .add .i64 (s:Nat) 8=some (.int .i64 ((s+8:Nat):Int)):=by rw[add_in (by omega) (by omega)];rfl
     refine U9 ?_;refine .x (OpV.shift rfl rfl rfl (by omega) hsh) ?_;refine U7 ?_;exact fin _ [] ⟨y/2 ^ 8,s+8,by omega,by omega,by have:=bl_shift (x:=y) (k:=8) c1;omega,⟨rfl,rfl,trivial⟩⟩
   · refine U7 ?_;exact fin _ [] ⟨y,s,by omega,by omega,hb,⟨rfl,rfl,trivial⟩⟩
 rintro R' L' ⟨z,r,hz,hr,hb2,hR⟩;refine Tc.dropB (R':= [(0,.int .u64 (z:Nat)),(2,.int .i64 (r:Nat))]) (L':= []) ?_ hR (List.nil_sublist _);clear hR;obtain⟨b1,b2⟩:=bl_tab z hz;have hw:=u8_tab z hz;have hw2:IntKind.i64.wrap (((UInt8.ofNat (bl z)).toNat:Nat):Int)=((bl z:Nat):Int):=by rw[b1];exact wrap64 (by omega) (by omega)
 have hadd:intBin .add .i64 (r:Nat) ((bl z:Nat):Int)=some (.int .i64 ((bl x:Nat):Int)):=by rw[add_in (by omega) (by omega),hb2];rfl
 refine U5 ?_;refine .x (OpV.indexStr (c:=UInt8.ofNat (bl z)) rfl rfl rfl (ds_str ((en.ok _ _ (show en.ty 9=some _ from rfl)).ds.trans rfl)) (by omega) (by
   rw[Int.toNat_natCast];exact(fun(s:ByteArray) (h:∀y:Nat,y<256→s[y]? =some (UInt8.ofNat (bl y)))=> h z hz) _ (by decide +kernel))) ?_
 refine .x (OpV.convE (E:=en) rfl rfl rfl rfl rfl rfl hw2) ?_;refine .i ?_ (z:=hadd);refine U2 ?_;refine .rt hK func208 results208 [_] ?_;exact okB
theorem LenG_c(x:Nat)(hx:x<4294967296):CallT M 158 #[.int .u64 (x:Nat)] H (fun v H'=> H.le H'∧v=.int .i64 (bl x:Nat)):=by
 refine .en func158 ntmps158 fun St c cs hK=> ?_;refine U10 ?_;refine .c rfl rfl rfl rfl (fun H hs=> .h (Len64G_c M H x hx)) ?_;refine U2 ?_;refine .rt hK func158 results158 [_] ?_;exact okB
def NextQ(H:View)(cb:Nat)(v:Value)(H':View):Prop:=
 (∀b x,b≠cb→H b=some x→H' b=some x)∧∃z:Int,v=.int .u64 z∧H' cb=some (true,.cells ⟨[.int .u64 z]⟩ 256 (0,0))
theorem Next_c(cb:Nat)(z:Int)(hC:H cb=some (true,.cells ⟨[.int .u64 z]⟩ 256 (0,0))):CallT M 234 #[.pointer (some ⟨cb,0,none⟩)] H (NextQ H cb):=by
 obtain⟨z1,h1⟩:∃z1,shiftV .shl .u64 z 13=some (.int .u64 z1):=⟨_,rfl⟩
 obtain⟨z2,h2⟩:∃z2,intBin .xor .u64 z z1=some (.int .u64 z2):=⟨_,rfl⟩
 obtain⟨z3,h3⟩:∃z3,shiftV .shr .u64 z2 7=some (.int .u64 z3):=⟨_,rfl⟩
 obtain⟨z4,h4⟩:∃z4,intBin .xor .u64 z2 z3=some (.int .u64 z4):=⟨_,rfl⟩
 obtain⟨z5,h5⟩:∃z5,shiftV .shl .u64 z4 17=some (.int .u64 z5):=⟨_,rfl⟩
 obtain⟨z6,h6⟩:∃z6,intBin .xor .u64 z4 z5=some (.int .u64 z6):=⟨_,rfl⟩
 refine CallT.enter (vs:= [.pointer (some ⟨cb,0,none⟩)]) func234 rfl ntmps234 (Nat.le_of_ble_eq_true rfl) (SymSt.pull hC) fun St c cs hK=> ?_;refine U5 ?_;refine Tc.dr [9] [0] mixed rfl ?_;refine .nn 0 ?_;refine .nn 1 ?_;refine .nn 2 ?_;refine .nn 3 ?_;refine .nn 4 ?_;refine .nn 5 ?_;refine .q 6 rfl .sf ?_;refine .nn 7 ?_;refine .nn 8 ?_;refine .e 9 0 ?_;refine .dn ?_;refine U ?_;refine Tc.dr [9] [0] mixed rfl ?_;refine .nn 0 ?_;refine .nn 1 ?_;refine .nn 2 ?_;refine .nn 3 ?_;refine .nn 4 ?_;refine .nn 5 ?_;refine .q 6 rfl .sf ?_;refine .nn 7 ?_;refine .nn 8 ?_;refine .e 9 0 ?_;refine .dn ?_;refine U ?_;refine Tc.dr [9] [0] mixed rfl ?_;refine .nn 0 ?_;refine .nn 1 ?_;refine .nn 2 ?_;refine .nn 3 ?_;refine .nn 4 ?_;refine .nn 5 ?_;refine .q 6 rfl .sf ?_;refine .nn 7 ?_;refine .nn 8 ?_;refine .e 9 0 ?_;refine .dn ?_;refine U7 ?_;refine .rt hK func234 results234 [_] ?_;exact fun H' hs=> ⟨fun b x hb hx=> hs.base b x (by rw[without_other hb];exact hx),z6,rfl,hs.get (i:=0) rfl⟩
theorem u64_in {x:Nat}(hx:x<18446744073709551616):IntKind.u64.wrap ((x:Nat):Int)=((x:Nat):Int):=by
 show(((x:Nat):Int)%(2 ^ 64:Int))=_;omega
theorem nextPow_c(x:Nat)(hx:0<x∧x<1000000000):CallT M 233 #[.int .i64 (x:Nat)] H (fun v H'=> H.le H'∧v=.int .u64 ((2 ^ bl x:Nat):Int)):=by
 obtain⟨h1,h2⟩:=bl_spec hx.1;have hw:IntKind.u64.wrap ((x:Nat):Int)=((x:Nat):Int):=u64_in (by omega);have hb:bl x≤31:=by
   have h3:2 ^ bl x<2 ^ 32:=by omega
   have:=(Nat.pow_lt_pow_iff_right (a:=2) (by decide)).1 h3;omega
 have hs:shiftV .shl .u64 1 ((bl x:Nat):Int)=some (.int .u64 ((2 ^ bl x:Nat):Int)):=by
   have e:min ((bl x:Nat):Int).toNat IntKind.u64.bits=bl x:=by
     have:IntKind.u64.bits=64:=rfl;rw[this,Int.toNat_natCast];omega
   show some (Value.int .u64 (IntKind.u64.wrap (1*2 ^ (min ((bl x:Nat):Int).toNat IntKind.u64.bits))))=_;rw[e,Int.one_mul];have:((2:Int) ^ bl x)=((2 ^ bl x:Nat):Int):=by norm_cast
   rw[this,u64_in (by omega)]
 refine .en func233 ntmps233 fun St c cs hK=> ?_;refine U8 ?_;refine .c rfl rfl rfl rfl (fun H hs=> .h (LenG_c M H x (by omega))) ?_;refine .x .sf ?_;refine U2 ?_;refine .rt hK func233 results233 [_] ?_;exact okB
end
theorem and_u64(z:Int)(m:Nat)(h:m<4294967296):∃w:Nat,intBin .and .u64 z (m:Nat)=some (.int .u64 (w:Nat))∧w≤m:=by
 have h2:((BitVec.ofInt 64 z) &&& (BitVec.ofInt 64 (m:Int))).toNat≤m:=by
   rw[BitVec.toNat_and];refine Nat.le_trans Nat.and_le_right ?_;rw[BitVec.toNat_ofInt];omega
 refine⟨((BitVec.ofInt 64 z) &&& (BitVec.ofInt 64 (m:Int))).toNat,?_,h2⟩;show some (Value.int .u64 (IntKind.u64.wrap (((BitVec.ofInt 64 z) &&& (BitVec.ofInt 64 (m:Int))).toNat:Int)))=_;rw[u64_in (by omega)]
theorem Or.rnd {M:Md prog}{n:Nat}{H₀:View}{R:Rg}{L:Bl}{o:Oper}{K:Rg→Bl→Prop}{cl:Go.Call}{x:Operand}{fv:Value}{az:List Value}{d:Nat}(i:Nat){cb:Nat}{z:Int}
   (hop:o.op=.call cl) (hcl:cl.callee=.value x) (hx:evR R x=some fv) (has:evRs R cl.args.toList=some az) (hd:o.dst=some d) (hn:d<n) (hi:L[i]? =some (cb,true,.cells ⟨[.int .u64 z]⟩ 256 (0,0)))
   (hc:∀H,SymSt H₀ L H→FnT M fv az H (NextQ H cb)) (hk:∀z,K ((d,.int .u64 z)::R) (L.set i (cb,true,.cells ⟨[.int .u64 z]⟩ 256 (0,0)))):Or M n H₀ R L o K:=
 .callV hop hcl hx has (Q:=fun H v H'=> NextQ H cb v H') hc fun H v H' hs ⟨h1,z,h2,h3⟩=>
   ⟨_,_,SymSt_turn hs hi h1 h3,by rw[hd];exact⟨hn,by rw[h2]⟩,hk z⟩
section
variable(M:Md prog)(H:View)
theorem breakS_c(dec:Int→List UInt8)(sb:Nat)(l:List Int)(jj:List Value)(n cap a b:Nat)(hn:n=l.length)(hb:b≤n)(h1000:n≤100000000)(h8:a+8≤b)(hS:H sb=some (true,.cells ⟨(strsL dec l)++jj⟩ 9 (0,0))):
   CallT M 200 #[.slice (some ⟨sb,0,none⟩) n cap,.int .i64 (a:Nat),.int .i64 (b:Nat)] H (SortSQ dec H sb jj (fun v m=> v=.tuple ⟨[]⟩∧Turned a b l m)):=by
 obtain⟨m,hm⟩:∃m,m=b-a:=⟨_,rfl⟩
 obtain⟨w,hw⟩:∃w,w=m/4:=⟨_,rfl⟩
 obtain⟨b3,b5⟩:=bl_spec (x:=m) (by omega);have hnp:=fun(H':View)=> nextPow_c M H' m (by omega);generalize 2 ^ bl m=P at b3 b5 hnp;have e0:((b:Nat):Int)-((a:Nat):Int)=((m:Nat):Int):=by omega
 have hwr:IntKind.u64.wrap ((m:Nat):Int)=((m:Nat):Int):=u64_in (by omega);have hq:intBin .quo .i64 ((m:Nat):Int) 4=some (.int .i64 ((w:Nat):Int)):=by
   rw[quo_in (by omega) (by omega) (by omega)]
   congr 2
   omega
 have e1:((a:Nat):Int)+((w:Nat):Int)*2-1=((a+w*2-1:Nat):Int):=by omega
 have hsub:intBin .sub .u64 ((P:Nat):Int) 1=some (.int .u64 ((P-1:Nat):Int)):=by
   have h:=u64_in (x:=P-1) (by omega);have h2:((P:Nat):Int)-1=((P-1:Nat):Int):=by omega
   show some (Value.int .u64 (IntKind.u64.wrap (((P:Nat):Int)-1)))=_;rw[h2,h]
 refine CallT.enter (vs:= [.slice (some ⟨sb,0,none⟩) n cap,.int .i64 (a:Nat),.int .i64 (b:Nat)]) func200 rfl ntmps200 (Nat.le_of_ble_eq_true rfl) (SymSt.pull hS) fun St c cs hK=> ?_;refine U7 ?_;rw[e0];refine U10 ?_;refine .al fun b7=> ?_;refine U5 ?_;refine .c rfl rfl rfl rfl (fun H hs=> .h (hnp H)) ?_;refine U7 ?_;refine .i ?_ (z:=mul_in (by omega) (by omega));refine U4 ?_;rw[e1];refine U ?_;refine Tc.db (Tc.loopInv (σ:= { s:Nat×Int×List Int//a+w*2-1≤s.1∧s.1≤a+w*2+2∧Turned a b l s.2.2 }) (fun s=> ([(0,.slice (some ⟨sb,0,none⟩) n cap),(1,.int .i64 (a:Nat)),(6,.int .i64 (m:Nat)),(7,.pointer (some ⟨b7,0,none⟩)),(8,.int .u64 (P:Nat)),(9,.int .i64 (s.1.1:Nat))],[(b7,true,.cells ⟨[.int .u64 s.1.2.1]⟩ 256 (0,0)),(sb,true,.cells ⟨(strsL dec s.1.2.2)++jj⟩ 9 (0,0))])) (fun s=> a+w*2+2-s.1.1) ?_
   ⟨(a+w*2-1,m,l),Nat.le_refl _,by simp only;omega,Turned.refl ..⟩)
 rintro⟨⟨i,z0,u⟩,g1,g2,g3⟩ ih;simp only at g1 g2 g3;have hul:=g3.len;show Tc M St _ _ _ _ [(0,.slice (some ⟨sb,0,none⟩) n cap),(1,.int .i64 (a:Nat)),(6,.int .i64 (m:Nat)),(7,.pointer (some ⟨b7,0,none⟩)),(8,.int .u64 (P:Nat)),(9,.int .i64 (i:Nat))] [(b7,true,.cells ⟨[.int .u64 z0]⟩ 256 (0,0)),(sb,true,.cells ⟨(strsL dec u)++jj⟩ 9 (0,0))] _ _;by_cases c1:i≤a+w*2+1
 · refine U7 ?_;refine .i ?_ (z:=mul_in (by omega) (by omega));refine U10 ?_;refine .e (Or.rnd (z:=z0) 0 rfl rfl rfl rfl rfl (by decide) rfl (fun H hs=> .h (Next_c M H b7 z0 (hs.get (i:=0) rfl))) (fun z=> ?_));obtain⟨x,hx,hxle⟩:=and_u64 z (P-1) (by omega);have hcv:IntKind.i64.wrap ((x:Nat):Int)=((x:Nat):Int):=wrap64 (by omega) (by omega);refine U ?_;refine .i ?_ (z:=hsub);refine .i ?_ (z:=hx);refine .x (OpV.convE (E:=en) rfl rfl rfl rfl rfl rfl hcv) ?_;refine U4 ?_;by_cases c2:x<m
   · refine U7 ?_;have z1:=cellsS_ld (dec:=dec) (m:=u) (j:=jj) (k:=(i:Nat)) (p:=i) rfl (by omega);have z2:=cellsS_ld (dec:=dec) (m:=u) (j:=jj) (k:=(a:Nat)+(x:Nat)) (p:=a+x) (by omega) (by omega);have z3:=cellsS_st (dec:=dec) (m:=u) (j:=jj) (k:=(i:Nat)) (x:=at0 u (a+x)) (p:=i) rfl (by omega);have z4:=cellsS_st (dec:=dec) (m:=(u).set (i) (at0 u (a+x))) (j:=jj) (k:=(a:Nat)+(x:Nat)) (x:=at0 u (i)) (p:=a+x) (by omega) (by rw[List.length_set];omega);have z5:=cellsS_le (dec:=dec) (m:=u) (j:=jj) (k:=(i:Nat)) (p:=i) rfl (by omega);have z6:=cellsS_le (dec:=dec) (m:=(u).set (i) (at0 u (a+x))) (j:=jj) (k:=(a:Nat)+(x:Nat)) (p:=a+x) (by omega) (by rw[List.length_set];omega);refine Tc.dr [17,19] [1] mixed rfl ?_;refine .nn 0 ?_;refine .nn 1 ?_;refine .nw 2 ?_;refine .nw 3 ?_;refine .nw 4 ?_;refine .nw 5 ?_;refine .nn 6 ?_;refine .nn 7 ?_;refine .nn 8 ?_;refine .nn 9 ?_;refine .nn 10 ?_;refine .nn 11 ?_;refine .nw 12 ?_;refine .nw 13 ?_;refine .nw 14 ?_;refine .nn 15 ?_;refine .nn 16 ?_;refine .e 17 1 ?_;refine .nw 18 ?_;refine .e 19 1 ?_;refine .dn ?_;refine U6 ?_;exact Tc.db (ih ⟨(i+1,z,swapL u i (a+x)),by simp only;omega,by simp only;omega,g3.trans (Turned.swap (by omega) (by omega) (by omega) (by omega))⟩ (by simp only;omega))
   · have e5:((x:Nat):Int)-((m:Nat):Int)=((x-m:Nat):Int):=by omega
     refine U12 ?_;rw[e5];have z1:=cellsS_ld (dec:=dec) (m:=u) (j:=jj) (k:=(i:Nat)) (p:=i) rfl (by omega);have z2:=cellsS_ld (dec:=dec) (m:=u) (j:=jj) (k:=(a:Nat)+((x-m:Nat):Int)) (p:=a+(x-m)) (by omega) (by omega);have z3:=cellsS_st (dec:=dec) (m:=u) (j:=jj) (k:=(i:Nat)) (x:=at0 u (a+(x-m))) (p:=i) rfl (by omega);have z4:=cellsS_st (dec:=dec) (m:=(u).set (i) (at0 u (a+(x-m)))) (j:=jj) (k:=(a:Nat)+((x-m:Nat):Int)) (x:=at0 u (i)) (p:=a+(x-m)) (by omega) (by rw[List.length_set];omega);have z5:=cellsS_le (dec:=dec) (m:=u) (j:=jj) (k:=(i:Nat)) (p:=i) rfl (by omega);have z6:=cellsS_le (dec:=dec) (m:=(u).set (i) (at0 u (a+(x-m)))) (j:=jj) (k:=(a:Nat)+((x-m:Nat):Int)) (p:=a+(x-m)) (by omega) (by rw[List.length_set];omega);refine Tc.dr [17,19] [1] mixed rfl ?_;refine .nn 0 ?_;refine .nn 1 ?_;refine .nw 2 ?_;refine .nw 3 ?_;refine .nw 4 ?_;refine .nw 5 ?_;refine .nn 6 ?_;refine .nn 7 ?_;refine .nn 8 ?_;refine .nn 9 ?_;refine .nn 10 ?_;refine .nn 11 ?_;refine .nw 12 ?_;refine .nw 13 ?_;refine .nw 14 ?_;refine .nn 15 ?_;refine .nn 16 ?_;refine .e 17 1 ?_;refine .nw 18 ?_;refine .e 19 1 ?_;refine .dn ?_;refine U6 ?_;exact Tc.db (ih ⟨(i+1,z,swapL u i (a+(x-m))),by simp only;omega,by simp only;omega,g3.trans (Turned.swap (by omega) (by omega) (by omega) (by omega))⟩ (by simp only;omega))
 · refine U7 ?_;refine .i ?_ (z:=mul_in (by omega) (by omega));refine U6 ?_;refine .ov hK func200 results200 [] ?_;exact fun H' hs=> SortSQ.of (dec:=dec) hs (i:=1) rfl ⟨rfl,g3⟩
end
set_option maxHeartbeats 16000000
structure Pte(a b i j:Nat)(u:List Int):Prop where
 ai:a+1≤i
 ij:i≤j+1
 jb:j<b
 aj:a≤j
 lo:∀k,a<k→k<i→at0 u k≤at0 u a
 hi:∀k,j<k→k<b→at0 u a<at0 u k
theorem Pte.start {a b:Nat}{u:List Int}(h:a<b):Pte a b (a+1) (b-1) u:=⟨Nat.le_refl _,by omega,by omega,by omega,fun k h1 h2=> by omega,fun k h1 h2=> by omega⟩
theorem Pte.up {a b i j:Nat}{u:List Int}(h:Pte a b i j u)(hij:i≤j)(hle:¬at0 u a<at0 u i):Pte a b (i+1) j u:=
 ⟨by have:=h.ai;omega,by omega,h.jb,h.aj,fun k h1 h2=> by
   by_cases e:k=i
   · rw[e];omega
   · exact h.lo k h1 (by omega),h.hi⟩
theorem Pte.down {a b i j:Nat}{u:List Int}(h:Pte a b i j u)(hij:i≤j)(hlt:at0 u a<at0 u j):Pte a b i (j-1) u:=
 ⟨h.ai,by omega,by have:=h.jb;omega,by have:=h.ai;omega,h.lo,fun k h1 h2=> by
   by_cases e:k=j
   · rw[e];exact hlt
   · exact h.hi k (by omega) h2⟩
theorem Pte.swap {a b i j:Nat}{u:List Int}(h:Pte a b i j u)(hl:b≤u.length)(hij:i≤j)(h1:at0 u a<at0 u i)(h2:¬at0 u a<at0 u j):i<j∧Pte a b (i+1) (j-1) (swapL u i j)∧at0 (swapL u i j) a=at0 u a:=by
 have ha:=h.ai;have hb:=h.jb;have hne:i≠j:=by
   rintro rfl;omega
 have hs:=fun q=> swapL_at (l:=u) (p:=i) (q:=j) (by omega) (by omega) q;have h0:at0 (swapL u i j) a=at0 u a:=by rw[hs,if_neg (by omega),if_neg (by omega)]
 refine⟨by omega,⟨by omega,by omega,by omega,by omega,fun k h3 h4=> ?_,fun k h3 h4=> ?_⟩,h0⟩
 · rw[h0,hs,if_neg (by omega)];by_cases e:k=i
   · rw[if_pos e];omega
   · rw[if_neg e];exact h.lo k h3 (by omega)
 · rw[h0,hs];by_cases e:k=j
   · rw[if_pos e];exact h1
   · rw[if_neg e,if_neg (by omega)];exact h.hi k (by omega) h4
structure EqPart(a b c:Nat)(x:Int)(u:List Int):Prop where
 ac:a<c
 cb:c≤b
 lo:∀k,a≤k→k<c→at0 u k≤x
 hi:∀k,c≤k→k<b→x<at0 u k
theorem Pte.fin {a b i j:Nat}{u:List Int}(h:Pte a b i j u)(hij:j<i){x:Int}(hx:at0 u a=x):EqPart a b i x u:=by
 have h1:=h.ij;have h2:=h.ai;have h3:=h.jb;exact⟨by omega,by omega,fun k g1 g2=> by
   by_cases e:k=a
   · rw[e,hx];exact Int.le_refl _
   · rw[←hx];exact h.lo k (by omega) g2,fun k g1 g2=> by rw[←hx];exact h.hi k (by omega) g2⟩
section
variable(M:Md prog)(H:View)
theorem partEqS_c(dec:Int→List UInt8)(sb:Nat)(l:List Int)(jj:List Value)(n cap a b pv:Nat)(hn:n=l.length)(hE:Enc dec l)(hb:b≤n)(h1000:n≤100000000)(hp:a≤pv∧pv<b)(hS:H sb=some (true,.cells ⟨(strsL dec l)++jj⟩ 9 (0,0))):
   CallT M 205 #[.slice (some ⟨sb,0,none⟩) n cap,.int .i64 (a:Nat),.int .i64 (b:Nat),.int .i64 (pv:Nat)] H (SortSQ dec H sb jj (fun v m=> ∃s:Nat×List Int,v=.int .i64 (s.1:Nat)∧m=s.2∧(Turned a b l s.2∧EqPart a b s.1 (at0 l pv) s.2))):=by
 refine CallT.enter (vs:= [.slice (some ⟨sb,0,none⟩) n cap,.int .i64 (a:Nat),.int .i64 (b:Nat),.int .i64 (pv:Nat)]) func205 rfl ntmps205 (Nat.le_of_ble_eq_true rfl) (SymSt.pull hS) fun St c cs hK=> ?_;have hx0:at0 (swapL l a pv) a=at0 l pv:=by
   rw[swapL_at (by omega) (by omega)];by_cases e:a=pv
   · rw[if_pos e,e]
   · rw[if_neg e,if_pos rfl]
 have hu:Turned a b l (swapL l a pv):=Turned.swap (by omega) (by omega) (by omega) (by omega);have eb:((b:Nat):Int)-1=((b-1:Nat):Int):=by omega
 have ea:intBin .add .i64 (a:Nat) 1=some (.int .i64 ((a+1:Nat):Int)):=by rw[add_in (by omega) (by omega)];rfl
 have y1:=cellsS_ld (dec:=dec) (m:=l) (j:=jj) (k:=(a:Nat)) (p:=a) rfl (by omega);have y2:=cellsS_ld (dec:=dec) (m:=l) (j:=jj) (k:=(pv:Nat)) (p:=pv) rfl (by omega);have y3:=cellsS_st (dec:=dec) (m:=l) (j:=jj) (k:=(a:Nat)) (x:=at0 l (pv)) (p:=a) rfl (by omega);have y4:=cellsS_st (dec:=dec) (m:=(l).set (a) (at0 l (pv))) (j:=jj) (k:=(pv:Nat)) (x:=at0 l (a)) (p:=pv) rfl (by rw[List.length_set];omega);have y5:=cellsS_le (dec:=dec) (m:=l) (j:=jj) (k:=(a:Nat)) (p:=a) rfl (by omega);have y6:=cellsS_le (dec:=dec) (m:=(l).set (a) (at0 l (pv))) (j:=jj) (k:=(pv:Nat)) (p:=pv) rfl (by rw[List.length_set];omega);refine U5 ?_;refine Tc.dr [13,15] [0] mixed rfl ?_;refine .nn 0 ?_;refine .nn 1 ?_;refine .nw 2 ?_;refine .nw 3 ?_;refine .nn 4 ?_;refine .nn 5 ?_;refine .nn 6 ?_;refine .nn 7 ?_;refine .nw 8 ?_;refine .nw 9 ?_;refine .nw 10 ?_;refine .nn 11 ?_;refine .nn 12 ?_;refine .e 13 0 ?_;refine .nw 14 ?_;refine .e 15 0 ?_;refine .dn ?_;refine U9 ?_;rw[eb];refine U2 ?_;refine Tc.db (Tc.loopInv (σ:= { s:Nat×Nat×List Int//Pte a b s.1 s.2.1 s.2.2∧Turned a b l s.2.2∧at0 s.2.2 a=at0 l pv }) (fun s=> ([(0,.slice (some ⟨sb,0,none⟩) n cap),(1,.int .i64 (a:Nat)),(9,.int .i64 (s.1.1:Nat)),(10,.int .i64 (s.1.2.1:Nat))],[(sb,true,.cells ⟨(strsL dec s.1.2.2)++jj⟩ 9 (0,0))])) (fun s=> s.1.2.1+1-s.1.1) ?_
   ⟨(a+1,b-1,swapL l a pv),Pte.start (by omega),hu,hx0⟩)
 clear y1 y2 y3 y4 y5 y6 hx0 hu;rintro⟨⟨i,j,w⟩,g1,g2,g3⟩ ih0;simp only at g1 g2 g3;have hwl:=g2.len;have hEw:=hE.turned g2;have g1a:=g1.ai;have g1b:=g1.ij;have g1c:=g1.jb;show Tc M St _ _ _ _ [(0,.slice (some ⟨sb,0,none⟩) n cap),(1,.int .i64 (a:Nat)),(9,.int .i64 (i:Nat)),(10,.int .i64 (j:Nat))] [(sb,true,.cells ⟨(strsL dec w)++jj⟩ 9 (0,0))] _ _;have za:=cellsS_ld (dec:=dec) (m:=w) (j:=jj) (k:=(a:Nat)) (p:=a) rfl (by omega);refine U2 ?_;refine blockVia (fun R' L'=> ∃s,i≤s∧Pte a b s j w∧(s≤j→at0 w a<at0 w s)∧AllIn [(0,.slice (some ⟨sb,0,none⟩) n cap),(1,.int .i64 (a:Nat)),(9,.int .i64 (s:Nat)),(10,.int .i64 (j:Nat))] R'∧L'= [(sb,true,.cells ⟨(strsL dec w)++jj⟩ 9 (0,0))]) ?_ (fun fin=> ?_)
 · rintro R' _ ⟨i2,i2le,p1,x1,hRR,rfl⟩;refine Tc.dropB ?_ hRR (List.Sublist.refl _);have p1a:=p1.ai;have p1b:=p1.ij;have p1c:=p1.jb;refine U ?_;refine blockVia (fun R' L'=> ∃s,s≤j∧Pte a b i2 s w∧(i2≤s→¬at0 w a<at0 w s)∧AllIn [(0,.slice (some ⟨sb,0,none⟩) n cap),(1,.int .i64 (a:Nat)),(9,.int .i64 (i2:Nat)),(10,.int .i64 (s:Nat))] R'∧L'= [(sb,true,.cells ⟨(strsL dec w)++jj⟩ 9 (0,0))]) ?_ (fun fin=> ?_)
   · rintro R' _ ⟨j2,j2le,p2,x2,hRR,rfl⟩;refine Tc.dropB ?_ hRR (List.Sublist.refl _);have p2a:=p2.ai;have p2b:=p2.ij;have p2c:=p2.jb;have p2d:=p2.aj;by_cases d:j2<i2
     · refine U14 ?_;refine .rt hK func205 results205 [_] ?_;exact fun H' hs=> SortSQ.of (dec:=dec) hs (i:=0) rfl ⟨(i2,w),rfl,rfl,g2,p2.fin d g3⟩
     · obtain⟨w1,w2,w3⟩:=p2.swap (by omega) (by omega) (x1 (by omega)) (x2 (by omega));have e2:((j2:Nat):Int)-1=((j2-1:Nat):Int):=by omega
       have ei:intBin .add .i64 (i2:Nat) 1=some (.int .i64 ((i2+1:Nat):Int)):=by rw[add_in (by omega) (by omega)];rfl
       refine U10 ?_;have z1:=cellsS_ld (dec:=dec) (m:=w) (j:=jj) (k:=(i2:Nat)) (p:=i2) rfl (by omega);have z2:=cellsS_ld (dec:=dec) (m:=w) (j:=jj) (k:=(j2:Nat)) (p:=j2) rfl (by omega);have z3:=cellsS_st (dec:=dec) (m:=w) (j:=jj) (k:=(i2:Nat)) (x:=at0 w (j2)) (p:=i2) rfl (by omega);have z4:=cellsS_st (dec:=dec) (m:=(w).set (i2) (at0 w (j2))) (j:=jj) (k:=(j2:Nat)) (x:=at0 w (i2)) (p:=j2) rfl (by rw[List.length_set];omega);have z5:=cellsS_le (dec:=dec) (m:=w) (j:=jj) (k:=(i2:Nat)) (p:=i2) rfl (by omega);have z6:=cellsS_le (dec:=dec) (m:=(w).set (i2) (at0 w (j2))) (j:=jj) (k:=(j2:Nat)) (p:=j2) rfl (by rw[List.length_set];omega);refine Tc.dr [13,15] [0] mixed rfl ?_;refine .nn 0 ?_;refine .nn 1 ?_;refine .nw 2 ?_;refine .nw 3 ?_;refine .nn 4 ?_;refine .nn 5 ?_;refine .nn 6 ?_;refine .nn 7 ?_;refine .nw 8 ?_;refine .nw 9 ?_;refine .nw 10 ?_;refine .nn 11 ?_;refine .nn 12 ?_;refine .e 13 0 ?_;refine .nw 14 ?_;refine .e 15 0 ?_;refine .dn ?_;refine U11 ?_;rw[e2];refine U ?_;exact Tc.db (ih0 ⟨(i2+1,j2-1,swapL w i2 j2),w2,g2.trans (Turned.swap (by omega) (by omega) (by omega) (by omega)),w3.trans g3⟩ (by simp only;omega))
   · refine Tc.db (Tc.loopInv (σ:= { s:Nat//s≤j∧Pte a b i2 s w }) (fun s=> ([(0,.slice (some ⟨sb,0,none⟩) n cap),(1,.int .i64 (a:Nat)),(9,.int .i64 (i2:Nat)),(10,.int .i64 (s.1:Nat))],[(sb,true,.cells ⟨(strsL dec w)++jj⟩ 9 (0,0))])) (fun s=> s.1) ?_ ⟨j,Nat.le_refl _,p1⟩);rintro⟨s,q1,q2⟩ ih;have q3:=q2.ai;have q4:=q2.ij;have q5:=q2.jb;show Tc M St _ _ _ _ [(0,.slice (some ⟨sb,0,none⟩) n cap),(1,.int .i64 (a:Nat)),(9,.int .i64 (i2:Nat)),(10,.int .i64 (s:Nat))] [(sb,true,.cells ⟨(strsL dec w)++jj⟩ 9 (0,0))] _ _;by_cases c1:i2≤s
     · have zs:=cellsS_ld (dec:=dec) (m:=w) (j:=jj) (k:=(s:Nat)) (p:=s) rfl (by omega);have es:((s:Nat):Int)-1=((s-1:Nat):Int):=by omega
       by_cases c2:at0 w a<at0 w s
       · refine U2 ?_;refine Tc.dr [] [] mixed rfl ?_;refine .nn 0 ?_;refine .nn 1 ?_;refine .nn 2 ?_;refine .nn 3 ?_;refine .nn 4 ?_;refine .nn 5 ?_;refine .nn 6 ?_;refine .nn 7 ?_;refine .nn 8 ?_;refine .nn 9 ?_;refine .nn 10 ?_;refine .nn 11 ?_;refine .z 12 rfl (OpV.takeCall rfl rfl rfl rfl (fun H hs=> .h (lessS M H hEw (at0_mem (by omega)) (at0_mem (by omega)) true (decide_eq_true c2)))) ?_;refine .nn 13 ?_;refine .dn ?_;refine U8 ?_;rw[es];refine U ?_;exact Tc.db (ih ⟨s-1,by omega,q2.down c1 c2⟩ (by simp only;omega))
       · repeat (refine Tc.seq ?_)
         refine Tc.dr [] [] mixed rfl ?_;refine .nn 0 ?_;refine .nn 1 ?_;refine .nn 2 ?_;refine .nn 3 ?_;refine .nn 4 ?_;refine .nn 5 ?_;refine .nn 6 ?_;refine .nn 7 ?_;refine .nn 8 ?_;refine .nn 9 ?_;refine .nn 10 ?_;refine .nn 11 ?_;refine .z 12 rfl (OpV.takeCall rfl rfl rfl rfl (fun H hs=> .h (lessS M H hEw (at0_mem (by omega)) (at0_mem (by omega)) false (decide_eq_false c2)))) ?_;refine .nn 13 ?_;refine .dn ?_;refine U2 ?_;exact fin _ _ ⟨s,q1,q2,fun _=> c2,⟨rfl,rfl,rfl,rfl,trivial⟩,rfl⟩
     · repeat (refine Tc.seq ?_)
       refine Tc.dr [] [] mixed rfl ?_;refine .nn 0 ?_;refine .nn 1 ?_;refine .nn 2 ?_;refine .nn 3 ?_;refine .nw 4 ?_;refine .nw 5 ?_;refine .nw 6 ?_;refine .nw 7 ?_;refine .nw 8 ?_;refine .nw 9 ?_;refine .nw 10 ?_;refine .nw 11 ?_;refine .nw 12 ?_;refine .nn 13 ?_;refine .dn ?_;refine U2 ?_;exact fin _ _ ⟨s,q1,q2,fun h=> (c1 h).elim,⟨rfl,rfl,rfl,rfl,trivial⟩,rfl⟩
 · refine Tc.db (Tc.loopInv (σ:= { s:Nat//i≤s∧Pte a b s j w }) (fun s=> ([(0,.slice (some ⟨sb,0,none⟩) n cap),(1,.int .i64 (a:Nat)),(9,.int .i64 (s.1:Nat)),(10,.int .i64 (j:Nat))],[(sb,true,.cells ⟨(strsL dec w)++jj⟩ 9 (0,0))])) (fun s=> j+1-s.1) ?_ ⟨i,Nat.le_refl _,g1⟩);rintro⟨s,q1,q2⟩ ih;have q3:=q2.ai;have q4:=q2.ij;have q5:=q2.jb;show Tc M St _ _ _ _ [(0,.slice (some ⟨sb,0,none⟩) n cap),(1,.int .i64 (a:Nat)),(9,.int .i64 (s:Nat)),(10,.int .i64 (j:Nat))] [(sb,true,.cells ⟨(strsL dec w)++jj⟩ 9 (0,0))] _ _;by_cases c1:s≤j
   · have zs:=cellsS_ld (dec:=dec) (m:=w) (j:=jj) (k:=(s:Nat)) (p:=s) rfl (by omega);have es:intBin .add .i64 (s:Nat) 1=some (.int .i64 ((s+1:Nat):Int)):=by rw[add_in (by omega) (by omega)];rfl
     by_cases c2:at0 w a<at0 w s
     · repeat (refine Tc.seq ?_)
       refine Tc.dr [] [] mixed rfl ?_;refine .nn 0 ?_;refine .nn 1 ?_;refine .nn 2 ?_;refine .nn 3 ?_;refine .nn 4 ?_;refine .nn 5 ?_;refine .nn 6 ?_;refine .nn 7 ?_;refine .nn 8 ?_;refine .nn 9 ?_;refine .nn 10 ?_;refine .nn 11 ?_;refine .z 12 rfl (OpV.takeCall rfl rfl rfl rfl (fun H hs=> .h (lessS M H hEw (at0_mem (by omega)) (at0_mem (by omega)) true (decide_eq_true c2)))) ?_;refine .nn 13 ?_;refine .nn 14 ?_;refine .dn ?_;refine U2 ?_;exact fin _ _ ⟨s,q1,q2,fun _=> c2,⟨rfl,rfl,rfl,rfl,trivial⟩,rfl⟩
     · refine U2 ?_;refine Tc.dr [] [] mixed rfl ?_;refine .nn 0 ?_;refine .nn 1 ?_;refine .nn 2 ?_;refine .nn 3 ?_;refine .nn 4 ?_;refine .nn 5 ?_;refine .nn 6 ?_;refine .nn 7 ?_;refine .nn 8 ?_;refine .nn 9 ?_;refine .nn 10 ?_;refine .nn 11 ?_;refine .z 12 rfl (OpV.takeCall rfl rfl rfl rfl (fun H hs=> .h (lessS M H hEw (at0_mem (by omega)) (at0_mem (by omega)) false (decide_eq_false c2)))) ?_;refine .nn 13 ?_;refine .nn 14 ?_;refine .dn ?_;refine U9 ?_;exact Tc.db (ih ⟨s+1,by omega,q2.up c1 c2⟩ (by simp only;omega))
   · repeat (refine Tc.seq ?_)
     refine Tc.dr [] [] mixed rfl ?_;refine .nn 0 ?_;refine .nn 1 ?_;refine .nn 2 ?_;refine .nn 3 ?_;refine .nw 4 ?_;refine .nw 5 ?_;refine .nw 6 ?_;refine .nw 7 ?_;refine .nw 8 ?_;refine .nw 9 ?_;refine .nw 10 ?_;refine .nw 11 ?_;refine .nw 12 ?_;refine .nw 13 ?_;refine .nn 14 ?_;refine .dn ?_;refine U2 ?_;exact fin _ _ ⟨s,q1,q2,fun h=> (c1 h).elim,⟨rfl,rfl,rfl,rfl,trivial⟩,rfl⟩
end
def Glue(l:List Int)(a b a' b':Nat)(u:List Int):Prop:=∀m,Turned a' b' u m→Srt a' b' m→Turned a b l m∧Srt a b m
theorem Glue.turn {l u w:List Int}{a b a' b':Nat}(h:Glue l a b a' b' u)(k:Turned a' b' u w):Glue l a b a' b' w:=fun m h1 h2=> h m (k.trans h1) h2
theorem Ahead.left {a b c:Nat}{u:List Int}(h:Ahead a b u)(k:c≤b):Ahead a c u:=by
 rcases h with h|h
 · exact .inl h
 · exact .inr fun i h1 h2=> h i h1 (by omega)
theorem Ahead.keep {a c b:Nat}{u w:List Int}(h:Ahead a c u)(k:Turned (c+1) b u w):Ahead a c w:=by
 rcases h with h|h
 · exact .inl h
 · refine .inr fun i h1 h2=> ?_;rw[k.out (a-1) (.inl (by omega)),k.out i (.inl (by omega))];exact h i h1 h2
theorem Glue.right {l u x:List Int}{a b a' b' c:Nat}(h:Glue l a b a' b' u)(k:Part a' b' c u)(hl:b'≤u.length)(h1:Turned a' c u x)(s1:Srt a' c x):Glue l a b (c+1) b' x:=fun m h2 s2=> by
 obtain⟨g1,g2⟩:=k.sorted hl h1 s1 h2 s2;exact h m g1 g2
theorem Glue.left {l u x:List Int}{a b a' b' c:Nat}(h:Glue l a b a' b' u)(k:Part a' b' c u)(hl:b'≤u.length)(h1:Turned (c+1) b' u x)(s1:Srt (c+1) b' x):Glue l a b a' c x:=fun m h2 s2=> by
 obtain⟨g1,g2⟩:=k.sorted2 hl h1 s1 h2 s2;exact h m g1 g2
theorem Part.ahead {a b c:Nat}{u x:List Int}(k:Part a b c u)(h1:Turned a c u x):Ahead (c+1) b x:=.inr fun i g1 g2=> by
 have e:c+1-1=c:=by omega
 rw[e];have h2:=k.hi i (by omega) g2;rw[←h1.out c (.inr (Nat.le_refl _)),←h1.out i (.inr (by omega))] at h2;exact h2
theorem EqPart.ahead {a b c:Nat}{x:Int}{w:List Int}(k:EqPart a b c x w):Ahead c b w:=.inr fun i g1 g2=> by
 have h1:=k.ac;have h2:=k.lo (c-1) (by omega) (by omega);have h3:=k.hi i g1 g2;omega
theorem Glue.eq {l u w:List Int}{a b a' b' c:Nat}{x:Int}(h:Glue l a b a' b' u)(k:EqPart a' b' c x w)(ht:Turned a' b' u w)(hge:∀i,a'≤i→i<b'→x≤at0 w i)(hl:b'≤w.length):Glue l a b c b' w:=fun m h1 s1=> by
 have c1:=k.ac;have c2:=k.cb;refine h m (ht.trans (h1.wide (by omega) (Nat.le_refl _))) fun p q g1 g2 g3=> ?_;have hlo:∀i,a'≤i→i<c→at0 m i=x:=fun i e1 e2=> by
   rw[h1.out i (.inl e2)];have e3:=k.lo i e1 e2;have e4:=hge i e1 (by omega);omega
 have hhi:∀i,c≤i→i<b'→x<at0 m i:=h1.all hl (P:=fun z=> x<z) k.hi;by_cases d1:q<c
 · rw[hlo p g1 (by omega),hlo q (by omega) d1];exact Int.le_refl _
 · by_cases d2:p<c
   · rw[hlo p g1 d2];have:=hhi q (by omega) g3;omega
   · exact s1 p q (by omega) g2 g3
theorem Or.sortsSF {dec:Int→List UInt8}{M:Md prog}{n:Nat}{H₀:View}{R:Rg}{L:Bl}{o:Oper}{K:Rg→Bl→Prop}{cl:Go.Call}{x:Operand}{fv:Value}{az:List Value}{d:Nat}{σ:Type}(i:Nat){sb:Nat}{l:List Int}{j:List Value}(val:σ→Value)(mm:σ→List Int)(p:σ→Prop)
   (hop:o.op=.call cl) (hcl:cl.callee=.value x) (hx:evR R x=some fv) (has:evRs R cl.args.toList=some az) (hd:o.dst=some d) (hn:d<n) (hi:L[i]? =some (sb,true,.cells ⟨(strsL dec l)++j⟩ 9 (0,0)))
   (hc:∀H,SymSt H₀ L H→FnT M fv az H (SortSQ dec H sb j fun v m=> ∃s,v=val s∧m=mm s∧p s)) (hk:∀s,p s→K ((d,val s)::R) (L.set i (sb,true,.cells ⟨(strsL dec (mm s))++j⟩ 9 (0,0)))):Or M n H₀ R L o K:=
 Or.sortsS i (fun v m=> ∃s,v=val s∧m=mm s∧p s) hop hcl hx has hd hn hi hc fun v m h=> by
   obtain⟨s,rfl,rfl,h3⟩:=h;exact hk s h3
section
variable(M:Md prog)
theorem pdqG_c (dec:Int→List UInt8)(sb:Nat)(jj:List Value)(n cap:Nat)(h40:n≤100000000):∀(d:Nat) (H:View) (l:List Int) (a b lim:Nat),b-a<d→n=l.length→a≤b→b≤n→lim≤100→Enc dec l→Ahead a b l→H sb=some (true,.cells ⟨(strsL dec l)++jj⟩ 9 (0,0))→
   CallT M 157 #[.slice (some ⟨sb,0,none⟩) n cap,.int .i64 (a:Nat),.int .i64 (b:Nat),.int .i64 (lim:Nat)] H (SortSQ dec H sb jj (fun v m=> v=.tuple ⟨[]⟩∧Turned a b l m∧Srt a b m)):=by
 intro d;induction d with
 | zero=> intro H l a b lim hd;omega
 | succ d ihd=>
 intro H l a b lim hd hn hab hb hlim hE hah hS;refine CallT.enter (vs:= [.slice (some ⟨sb,0,none⟩) n cap,.int .i64 (a:Nat),.int .i64 (b:Nat),.int .i64 (lim:Nat)]) func157 rfl ntmps157 (Nat.le_of_ble_eq_true rfl) (SymSt.pull hS) fun St c cs hK=> ?_;refine U9 ?_;refine Tc.db (Tc.loopInv (σ:= { s:Nat×Nat×Nat×Bool×Bool×List Int//a≤s.1∧s.1≤s.2.1∧s.2.1≤b∧s.2.2.1≤lim∧Turned a b l s.2.2.2.2.2∧Glue l a b s.1 s.2.1 s.2.2.2.2.2∧Ahead s.1 s.2.1 s.2.2.2.2.2 }) (fun s=> ([(0,.slice (some ⟨sb,0,none⟩) n cap),(1,.int .i64 (s.1.1:Nat)),(2,.int .i64 (s.1.2.1:Nat)),(3,.int .i64 (s.1.2.2.1:Nat)),(8,.bool s.1.2.2.2.1),(9,.bool s.1.2.2.2.2.1)],[(sb,true,.cells ⟨(strsL dec s.1.2.2.2.2.2)++jj⟩ 9 (0,0))])) (fun s=> s.1.2.1-s.1.1) ?_
   ⟨(a,b,lim,true,true,l),Nat.le_refl _,hab,Nat.le_refl _,Nat.le_refl _,Turned.refl ..,fun m h1 h2=> ⟨h1,h2⟩,hah⟩)
 rintro⟨⟨a',b',lm,wb,wp,u⟩,g1,g2,g3,g4,g5,g6,g7⟩ ih;simp only at g1 g2 g3 g4 g5 g6 g7;have hul:=g5.len;have hEu:=hE.turned g5;obtain⟨m,hm⟩:∃m,m=b'-a':=⟨_,rfl⟩
 have e0:((b':Nat):Int)-((a':Nat):Int)=((m:Nat):Int):=by omega
 show Tc M St _ _ _ _ [(0,.slice (some ⟨sb,0,none⟩) n cap),(1,.int .i64 (a':Nat)),(2,.int .i64 (b':Nat)),(3,.int .i64 (lm:Nat)),(8,.bool wb),(9,.bool wp)] [(sb,true,.cells ⟨(strsL dec u)++jj⟩ 9 (0,0))] _ _;refine U8 ?_;rw[e0];refine U2 ?_;by_cases c1:m≤12
 · refine U10 ?_;refine .e (Or.sortsS (dec:=dec) (l:=u) 0 (fun v m=> v=.tuple ⟨[]⟩∧Turned a' b' u m∧Srt a' b' m) rfl rfl rfl rfl rfl (by decide) rfl (fun H hs=> .h (insertionS_c M H dec sb u jj n cap a' b' (by omega) hEu (by omega) (by omega) (by omega) (hs.get (i:=0) rfl))) (fun v w ⟨_,wt,ws⟩=> ?_));refine U ?_;refine .rt hK func157 results157 [] ?_;exact fun H' hs=> SortSQ.of (dec:=dec) hs (i:=0) rfl ⟨rfl,g6 w wt ws⟩
 · refine U8 ?_;by_cases c2:lm=0
   · refine U10 ?_;refine .e (Or.sortsS (dec:=dec) (l:=u) 0 (fun v m=> v=.tuple ⟨[]⟩∧Turned a' b' u m∧Srt a' b' m) rfl rfl rfl rfl rfl (by decide) rfl (fun H hs=> .h (heapSortS_c M H dec sb u jj n cap a' b' (by omega) hEu (by omega) (by omega) (by omega) (hs.get (i:=0) rfl))) (fun v w ⟨_,wt,ws⟩=> ?_));refine U ?_;refine .rt hK func157 results157 [] ?_;exact fun H' hs=> SortSQ.of (dec:=dec) hs (i:=0) rfl ⟨rfl,g6 w wt ws⟩
   · refine U7 ?_;refine Tc.via (fun R' L'=> ∃(lm1:Nat) (x:List Int),lm1≤lm∧Turned a' b' u x∧AllIn [(0,.slice (some ⟨sb,0,none⟩) n cap),(1,.int .i64 (a':Nat)),(2,.int .i64 (b':Nat)),(3,.int .i64 (lm1:Nat)),(8,.bool wb),(9,.bool wp),(10,.int .i64 (m:Nat))] R'∧L'= [(sb,true,.cells ⟨(strsL dec x)++jj⟩ 9 (0,0))]) ?_ (fun fin=> ?_)
     · rintro R' _ ⟨lm1,x,o1,o2,hRR,rfl⟩;refine Tc.dropB ?_ hRR (List.Sublist.refl _);have hxl:=o2.len;refine U5 ?_;refine .e (Or.callNew pivV (fun _=> []) (fun s:Nat×Nat=> a'≤s.1∧s.1<b'∧s.2≤2) rfl rfl rfl rfl rfl (by decide) (fun _=> by simp) (fun H hs=> .h (choosePivotS_c M H dec sb true x jj n cap a' b' (by omega) (hEu.turned o2) h40 (by omega) (by omega) (hs.get (i:=0) rfl))) (fun⟨p,h⟩ ⟨v1,v2,v3⟩=> ?_));refine U6 ?_;simp only at v1 v2 v3;refine U ?_;refine Tc.via (fun R' L'=> ∃(p:Nat) (y:List Int),a'≤p∧p<b'∧Turned a' b' x y∧(∃h:Nat,AllIn [(0,.slice (some ⟨sb,0,none⟩) n cap),(1,.int .i64 (a':Nat)),(2,.int .i64 (b':Nat)),(3,.int .i64 (lm1:Nat)),(8,.bool wb),(9,.bool wp),(10,.int .i64 (m:Nat)),(11,.int .i64 (p:Nat)),(12,.int .i64 (h:Nat))] R')∧L'= [(sb,true,.cells ⟨(strsL dec y)++jj⟩ 9 (0,0))]) ?_ (fun fin=> ?_)
       · clear v1 v2 v3;rintro R' _ ⟨p,y,v1,v2,o3,⟨h,hRR⟩,rfl⟩;refine Tc.dropB ?_ hRR (List.Sublist.refl _);have hyl:=o3.len;refine U ?_;refine Tc.via (fun R' L'=> ∃y':List Int,Turned a' b' y y'∧AllIn [(0,.slice (some ⟨sb,0,none⟩) n cap),(1,.int .i64 (a':Nat)),(2,.int .i64 (b':Nat)),(3,.int .i64 (lm1:Nat)),(8,.bool wb),(9,.bool wp),(10,.int .i64 (m:Nat)),(11,.int .i64 (p:Nat))] R'∧L'= [(sb,true,.cells ⟨(strsL dec y')++jj⟩ 9 (0,0))]) ?_ (fun fin=> ?_)
         · rintro R' _ ⟨y,o4,hRR,rfl⟩;refine Tc.dropB ?_ hRR (List.Sublist.refl _);clear hRR;replace o3:=o3.trans o4;have hyl:=o3.len;have hEy:=hEu.turned (o2.trans o3);refine U ?_;have g5y:=(g5.trans ((o2.trans o3).wide g1 g3))
           have gy:Glue l a b a' b' y:=g6.turn (o2.trans o3);have ay:Ahead a' b' y:=g7.turn (o2.trans o3) (by omega);refine Tc.via (fun R' L'=> AllIn [(0,.slice (some ⟨sb,0,none⟩) n cap),(1,.int .i64 (a':Nat)),(2,.int .i64 (b':Nat)),(3,.int .i64 (lm1:Nat)),(8,.bool wb),(9,.bool wp),(10,.int .i64 (m:Nat)),(11,.int .i64 (p:Nat))] R'∧L'= [(sb,true,.cells ⟨(strsL dec y)++jj⟩ 9 (0,0))]) ?_ (fun fin=> ?_)
           · rintro R' _ ⟨hRR,rfl⟩;refine Tc.dropB ?_ hRR (List.Sublist.refl _);clear hRR;refine U6 ?_;refine .e (Or.sortsSF (dec:=dec) (l:=y) 0 (fun s:Nat×Bool×List Int=> .tuple ⟨[.int .i64 (s.1:Nat),.bool s.2.1]⟩) (fun s=> s.2.2) (fun s=> Turned a' b' y s.2.2∧Part a' b' s.1 s.2.2) rfl rfl rfl rfl rfl (by decide) rfl (fun H hs=> .h (partitionS_c M H dec sb y jj n cap a' b' p (by omega) hEy (by omega) (by omega) (by omega) (hs.get (i:=0) rfl))) (fun⟨mid,al,w⟩ ⟨k1,k2⟩=> ?_));refine U6 ?_;simp only at k1 k2;have k3:=k2.aj;have k4:=k2.jb;have hwl:=k1.len;have hEw:=hEy.turned k1;have gw:Glue l a b a' b' w:=gy.turn k1;have aw:Ahead a' b' w:=ay.turn k1 (by omega);have e1:((mid:Nat):Int)-((a':Nat):Int)=((mid-a':Nat):Int):=by omega
             have e2:((b':Nat):Int)-((mid:Nat):Int)=((b'-mid:Nat):Int):=by omega
             have hq:intBin .quo .i64 ((m:Nat):Int) 8=some (.int .i64 ((m/8:Nat):Int)):=by
               rw[quo_in (by omega) (by omega) (by omega)]
               congr 2
             have hgt:∀x y:Nat,intBin .geq .i64 ((x:Nat):Int) ((y:Nat):Int)=some (.bool (decide (y≤x))):=fun x y=> by
               by_cases c:y≤x
               · rw[decide_eq_true c];exact geq_t (by omega)
               · rw[decide_eq_false c];exact geq_f (by omega)
             have hg1:=hgt (mid-a') (m/8);have hg2:=hgt (b'-mid) (m/8);refine U16 ?_;rw[e1,e2];refine U7 ?_;by_cases c5:mid-a'<b'-mid
             · refine U10 ?_;refine .i ?_ (z:=hg1);refine U8 ?_;refine .e (Or.sortsS (dec:=dec) (l:=w) 0 (fun v m=> v=.tuple ⟨[]⟩∧Turned a' mid w m∧Srt a' mid m) rfl rfl rfl rfl rfl (by decide) rfl (fun H hs=> .h (ihd H w a' mid lm1 (by omega) (by omega) (by omega) (by omega) (by omega) hEw (aw.left (by omega)) (hs.get (i:=0) rfl))) (fun v x ⟨_,xt,xs⟩=> ?_));refine U7 ?_;have hxn:=xt.len;have r1:Turned a b l x:=g5y.trans ((k1.trans (xt.wide (by omega) (by omega))).wide (by omega) (by omega));have r2:Glue l a b (mid+1) b' x:=gw.right k2 (by omega) xt xs;have r3:Ahead (mid+1) b' x:=k2.ahead xt;have r4:lm1≤lim:=by omega
               have r5:a≤mid+1:=by omega
               have r6:mid+1≤b':=by omega
               exact Tc.db (ih ⟨(mid+1,b',lm1,decide (m/8≤mid-a'),al,x),r5,r6,g3,r4,r1,r2,r3⟩ (by simp only;omega))
             · refine U10 ?_;refine .i ?_ (z:=hg2);refine U9 ?_;refine .e (Or.sortsS (dec:=dec) (l:=w) 0 (fun v m=> v=.tuple ⟨[]⟩∧Turned (mid+1) b' w m∧Srt (mid+1) b' m) rfl rfl rfl rfl rfl (by decide) rfl (fun H hs=> .h (ihd H w (mid+1) b' lm1 (by omega) (by omega) (by omega) (by omega) (by omega) hEw (k2.ahead (Turned.refl a' mid w)) (hs.get (i:=0) rfl))) (fun v x ⟨_,xt,xs⟩=> ?_));refine U6 ?_;have r1:Turned a b l x:=g5y.trans ((k1.trans (xt.wide (by omega) (by omega))).wide (by omega) (by omega));have r2:Glue l a b a' mid x:=gw.left k2 (by omega) xt xs;have r3:Ahead a' mid x:=(aw.left (by omega)).keep xt;have r4:lm1≤lim:=by omega
               have r5:a'≤mid:=by omega
               have r6:mid≤b:=by omega
               exact Tc.db (ih ⟨(a',mid,lm1,decide (m/8≤b'-mid),al,x),g1,r5,r6,r4,r1,r2,r3⟩ (by simp only;omega))
           · by_cases c3:a'=0
             · subst c3;refine U ?_;refine Tc.dr [] [] mixed rfl ?_;refine .nn 0 ?_;refine .nn 1 ?_;refine .nn 2 ?_;refine .nw 3 ?_;refine .nw 4 ?_;refine .nw 5 ?_;refine .nw 6 ?_;refine .nw 7 ?_;refine .nw 8 ?_;refine .nw 9 ?_;refine .nw 10 ?_;refine .nw 11 ?_;refine .nw 12 ?_;refine .nw 13 ?_;refine .nn 14 ?_;refine .dn ?_;refine U2 ?_;exact Tc.db (fin [(0,.slice (some ⟨sb,0,none⟩) n cap),(1,.int .i64 (0:Nat)),(2,.int .i64 (b':Nat)),(3,.int .i64 (lm1:Nat)),(8,.bool wb),(9,.bool wp),(10,.int .i64 (m:Nat)),(11,.int .i64 (p:Nat))] [(sb,true,.cells ⟨(strsL dec y)++jj⟩ 9 (0,0))] ⟨⟨rfl,rfl,rfl,rfl,rfl,rfl,rfl,rfl,trivial⟩,rfl⟩)
             · have ea:((a':Nat):Int)-1=((a'-1:Nat):Int):=by omega
               have y1:=cellsS_ld (dec:=dec) (m:=y) (j:=jj) (k:=((a':Nat):Int)-1) (p:=a'-1) (by omega) (by omega);have y2:=cellsS_ld (dec:=dec) (m:=y) (j:=jj) (k:=(p:Nat)) (p:=p) rfl (by omega);by_cases hlt:at0 y (a'-1)<at0 y p
               · refine U ?_;refine Tc.dr [] [] mixed rfl ?_;refine .nn 0 ?_;refine .nn 1 ?_;refine .nn 2 ?_;refine .nn 3 ?_;refine .nn 4 ?_;refine .nn 5 ?_;refine .nn 6 ?_;refine .nn 7 ?_;refine .nn 8 ?_;refine .nn 9 ?_;refine .nn 10 ?_;refine .nn 11 ?_;refine .z 12 rfl (OpV.takeCall rfl rfl rfl rfl (fun H hs=> .h (lessS M H hEy (at0_mem (by omega)) (at0_mem (by omega)) true (decide_eq_true hlt)))) ?_;refine .nn 13 ?_;refine .nn 14 ?_;refine .dn ?_;refine U2 ?_;exact Tc.db (fin [(0,.slice (some ⟨sb,0,none⟩) n cap),(1,.int .i64 (a':Nat)),(2,.int .i64 (b':Nat)),(3,.int .i64 (lm1:Nat)),(8,.bool wb),(9,.bool wp),(10,.int .i64 (m:Nat)),(11,.int .i64 (p:Nat))] [(sb,true,.cells ⟨(strsL dec y)++jj⟩ 9 (0,0))] ⟨⟨rfl,rfl,rfl,rfl,rfl,rfl,rfl,rfl,trivial⟩,rfl⟩)
               · have hge:∀i,a'≤i→i<b'→at0 y p≤at0 y i:=fun i q1 q2=> by
                   rcases ay with h0|h0
                   · exact absurd h0 c3
                   · have:=h0 i q1 q2;omega
                 refine U ?_;refine Tc.dr [] [] mixed rfl ?_;refine .nn 0 ?_;refine .nn 1 ?_;refine .nn 2 ?_;refine .nn 3 ?_;refine .nn 4 ?_;refine .nn 5 ?_;refine .nn 6 ?_;refine .nn 7 ?_;refine .nn 8 ?_;refine .nn 9 ?_;refine .nn 10 ?_;refine .nn 11 ?_;refine .z 12 rfl (OpV.takeCall rfl rfl rfl rfl (fun H hs=> .h (lessS M H hEy (at0_mem (by omega)) (at0_mem (by omega)) false (decide_eq_false hlt)))) ?_;refine .nn 13 ?_;refine .nn 14 ?_;refine .dn ?_;refine U2 ?_;clear fin;refine U5 ?_;refine .e (Or.sortsSF (dec:=dec) (l:=y) 0 (fun s:Nat×List Int=> .int .i64 (s.1:Nat)) (fun s=> s.2) (fun s=> Turned a' b' y s.2∧EqPart a' b' s.1 (at0 y p) s.2) rfl rfl rfl rfl rfl (by decide) rfl (fun H hs=> .h (partEqS_c M H dec sb y jj n cap a' b' p (by omega) hEy (by omega) h40 (by omega) (hs.get (i:=0) rfl))) (fun⟨mid,w⟩ ⟨k1,k2⟩=> ?_));refine U2 ?_;simp only at k1 k2;have k3:=k2.ac;have k4:=k2.cb;have hwl:=k1.len;refine U6 ?_;have r1:Turned a b l w:=g5y.trans (k1.wide (by omega) (by omega));have r2:Glue l a b mid b' w:=gy.eq k2 k1 (k1.all (by omega) (P:=fun z=> at0 y p≤z) hge) (by omega);have r3:Ahead mid b' w:=k2.ahead;have r4:lm1≤lim:=by omega
                 have r5:a≤mid:=by omega
                 exact Tc.db (ih ⟨(mid,b',lm1,wb,wp,w),r5,k4,g3,r4,r1,r2,r3⟩ (by simp only;omega))
         · refine U ?_;by_cases c4:wb=true∧wp=true∧h=1
           · obtain⟨rfl,rfl,rfl⟩:=c4;refine U16 ?_;refine .e (Or.sortsSF (dec:=dec) (l:=y) 0 (fun s:Bool×List Int=> .bool s.1) (fun s=> s.2) (fun s=> Turned a' b' y s.2∧(s.1=true→Srt a' b' s.2)) rfl rfl rfl rfl rfl (by decide) rfl (fun H hs=> .h (CallT.mono (partialS_c M H dec sb y jj n cap a' b' (by omega) (hEu.turned (o2.trans o3)) (by omega) h40 (by omega) (g7.turn (o2.trans o3) (by omega)) (hs.get (i:=0) rfl)) (fun v H' ⟨q1,m',⟨t',q2,q3,q4⟩,q5⟩=> ⟨q1,m',⟨(t',m'),q2,rfl,q3,q4⟩,q5⟩))) (fun⟨t,y2⟩ ⟨ht,hs2⟩=> ?_));refine U ?_;simp only at ht hs2;cases t
             · refine U2 ?_;exact Tc.db (fin [(0,.slice (some ⟨sb,0,none⟩) n cap),(1,.int .i64 (a':Nat)),(2,.int .i64 (b':Nat)),(3,.int .i64 (lm1:Nat)),(8,.bool true),(9,.bool true),(10,.int .i64 (m:Nat)),(11,.int .i64 (p:Nat))] [(sb,true,.cells ⟨(strsL dec y2)++jj⟩ 9 (0,0))] ⟨y2,ht,⟨rfl,rfl,rfl,rfl,rfl,rfl,rfl,rfl,trivial⟩,rfl⟩)
             · have hall:=(g6.turn (o2.trans o3)) y2 ht (hs2 rfl);refine U ?_;refine .rt hK func157 results157 [] ?_;exact fun H' hs=> SortSQ.of (dec:=dec) hs (i:=0) rfl ⟨rfl,hall⟩
           · have c5:wb=true→wp=true→h≠1:=fun e1 e2 e3=> c4 ⟨e1,e2,e3⟩;cases wb
             · cases wp
               · refine U12 ?_;exact Tc.db (fin [(0,.slice (some ⟨sb,0,none⟩) n cap),(1,.int .i64 (a':Nat)),(2,.int .i64 (b':Nat)),(3,.int .i64 (lm1:Nat)),(8,.bool false),(9,.bool false),(10,.int .i64 (m:Nat)),(11,.int .i64 (p:Nat))] [(sb,true,.cells ⟨(strsL dec y)++jj⟩ 9 (0,0))] ⟨y,Turned.refl ..,⟨rfl,rfl,rfl,rfl,rfl,rfl,rfl,rfl,trivial⟩,rfl⟩)
               · refine U12 ?_;exact Tc.db (fin [(0,.slice (some ⟨sb,0,none⟩) n cap),(1,.int .i64 (a':Nat)),(2,.int .i64 (b':Nat)),(3,.int .i64 (lm1:Nat)),(8,.bool false),(9,.bool true),(10,.int .i64 (m:Nat)),(11,.int .i64 (p:Nat))] [(sb,true,.cells ⟨(strsL dec y)++jj⟩ 9 (0,0))] ⟨y,Turned.refl ..,⟨rfl,rfl,rfl,rfl,rfl,rfl,rfl,rfl,trivial⟩,rfl⟩)
             · cases wp
               · refine U12 ?_;exact Tc.db (fin [(0,.slice (some ⟨sb,0,none⟩) n cap),(1,.int .i64 (a':Nat)),(2,.int .i64 (b':Nat)),(3,.int .i64 (lm1:Nat)),(8,.bool true),(9,.bool false),(10,.int .i64 (m:Nat)),(11,.int .i64 (p:Nat))] [(sb,true,.cells ⟨(strsL dec y)++jj⟩ 9 (0,0))] ⟨y,Turned.refl ..,⟨rfl,rfl,rfl,rfl,rfl,rfl,rfl,rfl,trivial⟩,rfl⟩)
               · have c6:=c5 rfl rfl;refine U12 ?_;exact Tc.db (fin [(0,.slice (some ⟨sb,0,none⟩) n cap),(1,.int .i64 (a':Nat)),(2,.int .i64 (b':Nat)),(3,.int .i64 (lm1:Nat)),(8,.bool true),(9,.bool true),(10,.int .i64 (m:Nat)),(11,.int .i64 (p:Nat))] [(sb,true,.cells ⟨(strsL dec y)++jj⟩ 9 (0,0))] ⟨y,Turned.refl ..,⟨rfl,rfl,rfl,rfl,rfl,rfl,rfl,rfl,trivial⟩,rfl⟩)
       · refine U ?_;by_cases c4:h=2
         · have e1:((b':Nat):Int)-1-(((p:Nat):Int)-((a':Nat):Int))=((b'-1-(p-a'):Nat):Int):=by omega
           refine U10 ?_;refine .e (Or.sortsS (dec:=dec) (l:=x) 0 (fun v m=> v=.tuple ⟨[]⟩∧Turned a' b' x m) rfl rfl rfl rfl rfl (by decide) rfl (fun H hs=> .h (reverseS_c M H dec sb x jj n cap a' b' (by omega) (by omega) (by omega) (by omega) (hs.get (i:=0) rfl))) (fun v y ⟨_,yt⟩=> ?_));refine U11 ?_;rw[e1];refine U3 ?_;exact Tc.db (fin [(0,.slice (some ⟨sb,0,none⟩) n cap),(1,.int .i64 (a':Nat)),(2,.int .i64 (b':Nat)),(3,.int .i64 (lm1:Nat)),(8,.bool wb),(9,.bool wp),(10,.int .i64 (m:Nat)),(11,.int .i64 (b'-1-(p-a'):Nat)),(12,.int .i64 (1:Nat))] [(sb,true,.cells ⟨(strsL dec y)++jj⟩ 9 (0,0))] ⟨b'-1-(p-a'),y,by omega,by omega,yt,⟨1,rfl,rfl,rfl,rfl,rfl,rfl,rfl,rfl,rfl,trivial⟩,rfl⟩)
         · refine U6 ?_;exact Tc.db (fin [(0,.slice (some ⟨sb,0,none⟩) n cap),(1,.int .i64 (a':Nat)),(2,.int .i64 (b':Nat)),(3,.int .i64 (lm1:Nat)),(8,.bool wb),(9,.bool wp),(10,.int .i64 (m:Nat)),(11,.int .i64 (p:Nat)),(12,.int .i64 (h:Nat))] [(sb,true,.cells ⟨(strsL dec x)++jj⟩ 9 (0,0))] ⟨p,x,by omega,by omega,Turned.refl ..,⟨h,rfl,rfl,rfl,rfl,rfl,rfl,rfl,rfl,rfl,trivial⟩,rfl⟩)
     · refine U ?_;cases wb
       · have e1:((lm:Nat):Int)-1=((lm-1:Nat):Int):=by omega
         refine U10 ?_;refine .e (Or.sortsS (dec:=dec) (l:=u) 0 (fun v m=> v=.tuple ⟨[]⟩∧Turned a' b' u m) rfl rfl rfl rfl rfl (by decide) rfl (fun H hs=> .h (breakS_c M H dec sb u jj n cap a' b' (by omega) (by omega) h40 (by omega) (hs.get (i:=0) rfl))) (fun v x ⟨_,xt⟩=> ?_));refine U6 ?_;rw[e1];exact Tc.db (fin [(0,.slice (some ⟨sb,0,none⟩) n cap),(1,.int .i64 (a':Nat)),(2,.int .i64 (b':Nat)),(3,.int .i64 (lm-1:Nat)),(8,.bool false),(9,.bool wp),(10,.int .i64 (m:Nat))] [(sb,true,.cells ⟨(strsL dec x)++jj⟩ 9 (0,0))] ⟨lm-1,x,by omega,xt,⟨rfl,rfl,rfl,rfl,rfl,rfl,rfl,trivial⟩,rfl⟩)
       · refine U6 ?_;exact Tc.db (fin [(0,.slice (some ⟨sb,0,none⟩) n cap),(1,.int .i64 (a':Nat)),(2,.int .i64 (b':Nat)),(3,.int .i64 (lm:Nat)),(8,.bool true),(9,.bool wp),(10,.int .i64 (m:Nat))] [(sb,true,.cells ⟨(strsL dec u)++jj⟩ 9 (0,0))] ⟨lm,u,Nat.le_refl _,Turned.refl ..,⟨rfl,rfl,rfl,rfl,rfl,rfl,rfl,trivial⟩,rfl⟩)
end
set_option maxHeartbeats 8000000
section
variable(M:Md prog)(H:View)
theorem SortG_c(dec:Int→List UInt8)(sb:Nat)(l:List Int)(jj:List Value)(n cap:Nat)(hn:n=l.length)(hE:Enc dec l)(h12:n≤100000000)(hS:H sb=some (true,.cells ⟨(strsL dec l)++jj⟩ 9 (0,0))):
   CallT M 91 #[.slice (some ⟨sb,0,none⟩) n cap] H (SortSQ dec H sb jj (fun v m=> v=.tuple ⟨[]⟩∧Turned 0 n l m∧Srt 0 n m)):=by
 have hw:=u64_in (x:=n) (by omega);have hb:bl n≤32:=by
   by_cases h0:0<n
   · have h1:=bl_spec h0;have h3:2 ^ bl n<2 ^ 32:=by omega
     have:=(Nat.pow_lt_pow_iff_right (a:=2) (by decide)).1 h3;omega
   · unfold bl;rw[if_pos (by omega)];omega
 refine CallT.enter (vs:= [.slice (some ⟨sb,0,none⟩) n cap]) func91 rfl ntmps91 (Nat.le_of_ble_eq_true rfl) (SymSt.pull hS) fun St c cs hK=> ?_;refine U11 ?_;refine .c rfl rfl rfl rfl (fun H hs=> .h (LenG_c M H n (by omega))) ?_;refine .e (Or.sortsS (dec:=dec) (l:=l) 0 (fun v m=> v=.tuple ⟨[]⟩∧Turned 0 n l m∧Srt 0 n m) rfl rfl rfl rfl rfl (by decide) rfl (fun H hs=> .h (pdqG_c M dec sb jj n cap h12 (n+1) H l 0 n (bl n) (by omega) hn (by omega) (Nat.le_refl _) (by omega) hE (.inl rfl) (hs.get (i:=0) rfl))) (fun v m hm=> ?_));refine U ?_;obtain⟨rfl,ht,hs0⟩:=hm;refine .ov hK func91 results91 [] ?_;exact fun H' hs=> SortSQ.of hs (i:=0) rfl ⟨rfl,ht,hs0⟩
end
theorem Or.sortGG {dec:Int→List UInt8}{M:Md prog}{n:Nat}{H₀:View}{R:Rg}{L1:Bl}{o:Oper}{K:Rg→Bl→Prop}{cl:Go.Call}{x:Operand}{fv:Value}{d:Nat}(g:Gl 9 1)(u:List Int)(hg:g.l=(strsL dec u))(hE:Enc dec u)(h12:g.n≤100000000)
   (hop:o.op=.call cl) (hcl:cl.callee=.value x) (hx:evR R x=some fv) (has:evRs R cl.args.toList=some [g.val]) (hd:o.dst=some d) (hn:d<n)
   (hc:∀(H:View) (Q:Value→View→Prop),CallT M 91 #[g.val] H Q→FnT M fv [g.val] H Q)
   (hK:∀(g':Gl 9 1) (m:List Int),g'.val=g.val→g'.n=g.n→g'.blk=g.blk→g'.l=(strsL dec m)→Turned 0 g.n u m→Srt 0 g.n m→K ((d,.tuple ⟨[]⟩)::R) (L1++g'.bl)):Or M n H₀ R (L1++g.bl) o K:=by
 have hul:u.length=g.n:=by have:=g.hl;rw[hg,strsL_len] at this;omega
 cases hb:g.blk with
 | none=>
   have hcap:=g.h0 hb;have hgc:=g.hc;have h0:g.n=0:=by omega
   have hbl:g.bl= []:=by unfold Gl.bl;rw[hb]
   have hv:g.val=.slice none 0 g.cap:=by unfold Gl.val;rw[hb,h0];rfl
   refine Or.callNew (fun _:Unit=> .tuple ⟨[]⟩) (fun _=> []) (fun _=> True) hop hcl hx has hd hn (fun _=> by simp) (fun H hs=> hc H _ ?_) (fun _ _=> ?_)
   · rw[hv];exact CallT.mono (SortS_nil M H g.cap) (fun v H' ⟨h1,h2⟩=> ⟨h1,(),h2,trivial,by simp⟩)
   · rw[List.append_nil];exact hK g u rfl rfl rfl hg (Turned.refl _ _ _) (fun p q h1 h2 h3=> by omega)
 | some b=>
   have hbl:g.bl= [(b,true,.cells ⟨(strsL dec u)++g.junk⟩ 9 (0,0))]:=by unfold Gl.bl;rw[hb,hg]
   have hv:g.val=.slice (some ⟨b,0,none⟩) g.n g.cap:=by unfold Gl.val;rw[hb];rfl
   rw[hbl];refine Or.sortsS (dec:=dec) (l:=u) L1.length (fun v m=> v=.tuple ⟨[]⟩∧Turned 0 g.n u m∧Srt 0 g.n m) hop hcl hx has hd hn (by rw[List.getElem?_append_right (Nat.le_refl _),Nat.sub_self];rfl)
     (fun H hs=> hc H _ ?_) (fun v m ⟨h1,h2,h3⟩=> ?_)
   · rw[hv];exact SortG_c M H dec b u g.junk g.n g.cap hul.symm hE h12 (hs.get (i:=L1.length) (by rw[List.getElem?_append_right (Nat.le_refl _),Nat.sub_self];rfl))
   · subst h1;have hml:m.length=g.n:=by rw[h2.len];exact hul
     have:=hK (Gl.withS g (strsL dec m) (by rw[strsL_len];exact hml)) m rfl rfl rfl rfl h2 h3;have hbl':(Gl.withS g (strsL dec m) (by rw[strsL_len];exact hml)).bl= [(b,true,.cells ⟨(strsL dec m)++g.junk⟩ 9 (0,0))]:=by
       unfold Gl.bl Gl.withS;simp only[hb]
     rw[hbl'] at this;rw[List.set_append_right _ _ (Nat.le_refl _),Nat.sub_self];exact this
set_option maxHeartbeats 16000000
def digs1:List UInt8:= [49,50,51,52,53,54,55,56,57]
def canTo(most n:Nat):List (List UInt8):=(List.range n).flatMap fun i=> allL (digs1.take most) (i+1)
theorem canTo_succ(most n:Nat):canTo most (n+1)=canTo most n++allL (digs1.take most) (n+1):=by
 unfold canTo;rw[List.range_succ,List.flatMap_append];simp
theorem allFrom_len(dg:List UInt8):∀(d:Nat) (s:List UInt8),(allFrom dg d s).length=dg.length ^ d
 | 0,_=> rfl
 | d+1,s=> by
   unfold allFrom;rw[List.length_flatMap];have:∀x∈dg,(fun x=> (allFrom dg d (s++[x])).length) x=(fun _=> dg.length ^ d) x:=fun x _=> allFrom_len dg d _;rw[List.map_congr_left this,List.map_const',List.sum_replicate_nat,Nat.pow_succ,Nat.mul_comm]
theorem allL_len {most n:Nat}(hm:most≤3)(hn:n≤3):(allL (digs1.take most) n).length≤27:=by
 unfold allL;rw[allFrom_len];have hl:(digs1.take most).length≤3:=by rw[List.length_take];omega
 calc (digs1.take most).length ^ n≤3 ^ n:=Nat.pow_le_pow_left hl n
   _≤3 ^ 3:=Nat.pow_le_pow_right (by decide) hn
   _=27:=by decide
theorem canTo_len {most:Nat}(hm:most≤3):∀n,n≤3→(canTo most n).length≤27*n
 | 0,_=> Nat.le_refl _
 | n+1,h=> by
   rw[canTo_succ,List.length_append];have h1:=canTo_len hm n (by omega);have h2:=allL_len hm h;omega
theorem digs1_dig(most:Nat):(digs1.take most).all dig=true:=by
 have h:digs1.all dig=true:=by decide +kernel
 exact List.all_eq_true.2 fun x hx=> List.all_eq_true.1 h x (List.mem_of_mem_take hx)
theorem mem_canTo {most n:Nat}{s:List UInt8}(h:s∈canTo most n)(hn:n≤3):s.all dig=true∧s.length≤3:=by
 obtain⟨i,hi,h2⟩:=List.mem_flatMap.1 h;obtain⟨h3,h4⟩:=mem_allL h2;have:=List.mem_range.1 hi;exact⟨List.all_eq_true.2 fun y hy=> List.all_eq_true.1 (digs1_dig most) y (h4 y hy),by omega⟩
theorem perm5(a b c d e f:Nat×Bool×Obj)(B:Bl):(a::b::c::d::e::f::B).Perm (c::d::e::a::b::f::B):=by
 have h1:([a,b]++c::(d::e::f::B)).Perm (c::([a,b]++d::e::f::B)):=List.perm_middle;have h2:([a,b]++d::(e::f::B)).Perm (d::([a,b]++e::f::B)):=List.perm_middle;have h3:([a,b]++e::(f::B)).Perm (e::([a,b]++f::B)):=List.perm_middle;exact h1.trans (.cons _ (h2.trans (.cons _ h3)))
def cheap(w:Nat→Int)(nw digits most:Nat):ChSt:=cheapGo (sortS (canTo most digits)) w nw [] 0 ⟨false,0,[]⟩
def cheapV(num:Value)(t a:Int):Value:=.tuple ⟨[num,.int .i64 t,.int .i64 a]⟩
section
variable(M:Md prog)(H:View)
theorem Cheapest_tally(A:Option Addr)(nw wc:Nat)(digits most:Int)(h:¬(1≤(nw:Int)∧(nw:Int)≤3)):
   CallT M 53 #[.slice A nw wc,.int .i64 digits,.int .i64 most] H (fun v H'=> H.le H'∧v=cheapV (.slice none 0 0) 0 2):=by
 refine .en func53 ntmps53 fun St c cs hK=> ?_;refine U2 ?_;refine .bo fun b3=> ?_;refine .al fun b6=> ?_;refine .al fun b7=> ?_;refine .al fun b8=> ?_;refine U7 ?_;refine .c rfl rfl rfl rfl (fun H hs=> .h (between_is M H (nw:Nat) 1 3 false (decide_eq_false h))) ?_;refine U10 ?_;refine .rt hK func53 results53 [_,_,_] ?_;exact okB
theorem Cheapest_limit(A:Option Addr)(nw wc:Nat)(w:Nat→Int)(hA:FreeAt H A nw w)(digits most:Int)(h0:1≤(nw:Int)∧(nw:Int)≤3)(h:(firstTo (fun j=> !weightOk (w j)) nw).isSome=true∨¬(1≤digits∧digits≤3)∨¬(1≤most∧most≤3)):
   CallT M 53 #[.slice A nw wc,.int .i64 digits,.int .i64 most] H (fun v H'=> H.le H'∧v=cheapV (.slice none 0 0) 0 1):=by
 have hc:=fun(H':View) (h':H.le H')=> ContainsI_c M H' A nw wc w (hA.le h') (by omega) (.func (.func 121) #[] #[]) (fun j=> !weightOk (w j)) (fun j _ H'' _=> .h (weightBad_c M H'' (w j)));cases hq:(firstTo (fun j=> !weightOk (w j)) nw).isSome with
 | true=>
   refine .en func53 ntmps53 fun St c cs hK=> ?_;refine U2 ?_;refine .bo fun b3=> ?_;refine .al fun b6=> ?_;refine .al fun b7=> ?_;refine .al fun b8=> ?_;refine U7 ?_;refine .c rfl rfl rfl rfl (fun H hs=> .h (between_is M H (nw:Nat) 1 3 true (decide_eq_true h0))) ?_;refine U8 ?_;refine .c rfl rfl rfl rfl (fun H hs=> .h (isB (hc H hs.base) hq)) ?_;refine U11 ?_;refine .rt hK func53 results53 [_,_,_] ?_;exact okB
 | false=>
   by_cases c1:1≤digits∧digits≤3
   · have c2:¬(1≤most∧most≤3):=by
       rcases h with h|h|h
       · rw[hq] at h;cases h
       · exact(h c1).elim
       · exact h
     refine .en func53 ntmps53 fun St c cs hK=> ?_;refine U2 ?_;refine .bo fun b3=> ?_;refine .al fun b6=> ?_;refine .al fun b7=> ?_;refine .al fun b8=> ?_;refine U7 ?_;refine .c rfl rfl rfl rfl (fun H hs=> .h (between_is M H (nw:Nat) 1 3 true (decide_eq_true h0))) ?_;refine U8 ?_;refine .c rfl rfl rfl rfl (fun H hs=> .h (isB (hc H hs.base) hq)) ?_;refine U6 ?_;refine .c rfl rfl rfl rfl (fun H hs=> .h (between_is M H digits 1 3 true (decide_eq_true c1))) ?_;refine U6 ?_;refine .c rfl rfl rfl rfl (fun H hs=> .h (between_is M H most 1 3 false (decide_eq_false c2))) ?_;refine U10 ?_;refine .rt hK func53 results53 [_,_,_] ?_;exact okB
   · refine .en func53 ntmps53 fun St c cs hK=> ?_;refine U2 ?_;refine .bo fun b3=> ?_;refine .al fun b6=> ?_;refine .al fun b7=> ?_;refine .al fun b8=> ?_;refine U7 ?_;refine .c rfl rfl rfl rfl (fun H hs=> .h (between_is M H (nw:Nat) 1 3 true (decide_eq_true h0))) ?_;refine U8 ?_;refine .c rfl rfl rfl rfl (fun H hs=> .h (isB (hc H hs.base) hq)) ?_;refine U6 ?_;refine .c rfl rfl rfl rfl (fun H hs=> .h (between_is M H digits 1 3 false (decide_eq_false c1))) ?_;refine U12 ?_;refine .rt hK func53 results53 [_,_,_] ?_;exact okB
theorem Cheapest_c(A:Option Addr)(nw wc:Nat)(w:Nat→Int)(hA:FreeAt H A nw w)(digits most:Nat)(h0:1≤(nw:Int)∧(nw:Int)≤3)(hw:(firstTo (fun j=> !weightOk (w j)) nw).isSome=false)(hd:1≤((digits:Nat):Int)∧((digits:Nat):Int)≤3)(hm:1≤((most:Nat):Int)∧((most:Nat):Int)≤3):
   CallT M 53 #[.slice A nw wc,.int .i64 (digits:Nat),.int .i64 (most:Nat)] H (fun v H'=> H.le H'∧∃a n c',v=cheapV (.slice a n c') (cheap w nw digits most).total (cheap w nw digits most).al∧n=(cheap w nw digits most).best.length∧SrcAt H' 1 (.slice a n c') n (strsV (cheap w nw digits most).best)):=by
 have hc:=fun(H':View) (h':H.le H')=> ContainsI_c M H' A nw wc w (hA.le h') (by omega) (.func (.func 121) #[] #[]) (fun j=> !weightOk (w j)) (fun j _ H'' _=> .h (weightBad_c M H'' (w j)));have hwok:∀i,i<nw→0≤w i∧w i≤99:=fun i hi=> by
   have h1:firstTo (fun j=> !weightOk (w j)) nw=none:=by
     cases hz:firstTo (fun j=> !weightOk (w j)) nw with
     | none=> rfl
     | some y=> rw[hz] at hw;cases hw
   have h2:=(firstTo_none _).1 h1 i hi;unfold weightOk at h2;simpa using h2
 refine .en func53 ntmps53 fun St c cs hK=> ?_;refine U2 ?_;refine .bo fun b3=> ?_;refine .al fun b6=> ?_;refine .al fun b7=> ?_;refine .al fun b8=> ?_;refine U7 ?_;refine .c rfl rfl rfl rfl (fun H hs=> .h (between_is M H (nw:Nat) 1 3 true (decide_eq_true h0))) ?_;refine U8 ?_;refine .c rfl rfl rfl rfl (fun H hs=> .h (isB (hc H hs.base) hw)) ?_;refine U6 ?_;refine .c rfl rfl rfl rfl (fun H hs=> .h (between_is M H (digits:Nat) 1 3 true (decide_eq_true hd))) ?_;refine U6 ?_;refine .c rfl rfl rfl rfl (fun H hs=> .h (between_is M H (most:Nat) 1 3 true (decide_eq_true hm))) ?_;refine U8 ?_;refine .al fun b9=> ?_;refine U8 ?_;refine Tc.db (Tc.loopB (σ:= { y:View×Nat×Gl 9 1//H.le y.1∧y.2.1≤digits∧y.2.2.l=strsV (canTo most y.2.1)∧y.2.2.n=(canTo most y.2.1).length })
   (fun y=> (y.1.1,[(2,.int .i64 (most:Nat)),(3,.pointer (some ⟨b3,0,none⟩)),(6,.pointer (some ⟨b6,0,none⟩)),(7,.pointer (some ⟨b7,0,none⟩)),(8,.pointer (some ⟨b8,0,none⟩)),(9,.pointer (some ⟨b9,0,none⟩)),(26,.int .i64 (digits:Nat)),(27,.int .i64 (y.1.2.1:Nat))],
     [(b9,true,.cells ⟨[y.1.2.2.val]⟩ 33 (0,0)),(b8,true,.cells ⟨[.int .i64 0]⟩ 29 (0,0)),(b7,true,.cells ⟨[.int .i64 0]⟩ 3 (0,0)),(b6,true,.cells ⟨[.slice none 0 0]⟩ 33 (0,0)),(b3,true,.cells ⟨[.slice A nw wc]⟩ 26 (0,0))]++y.1.2.2.bl)) (fun y=> digits-y.1.2.1) ?_ ⟨(H,0,Gl.nil 9 1),View.le_refl _,Nat.zero_le _,rfl,rfl⟩)
 rintro⟨⟨H₁,i,g⟩,g1,g2,g3,g4⟩ ih;simp only at g1 g2 g3 g4;show Tc M St _ _ H₁ _ [(2,.int .i64 (most:Nat)),(3,.pointer (some ⟨b3,0,none⟩)),(6,.pointer (some ⟨b6,0,none⟩)),(7,.pointer (some ⟨b7,0,none⟩)),(8,.pointer (some ⟨b8,0,none⟩)),(9,.pointer (some ⟨b9,0,none⟩)),(26,.int .i64 (digits:Nat)),(27,.int .i64 (i:Nat))]
     ([(b9,true,.cells ⟨[g.val]⟩ 33 (0,0)),(b8,true,.cells ⟨[.int .i64 0]⟩ 29 (0,0)),(b7,true,.cells ⟨[.int .i64 0]⟩ 3 (0,0)),(b6,true,.cells ⟨[.slice none 0 0]⟩ 33 (0,0)),(b3,true,.cells ⟨[.slice A nw wc]⟩ 26 (0,0))]++g.bl) _ _
 have hcl:=canTo_len (most:=most) (by omega) i (by omega);by_cases c1:i=digits
 · subst c1;refine U10 ?_;refine .e (Or.sortGG (dec:=decS (canTo most i)) (L1:= [(b9,true,.cells ⟨[g.val]⟩ 33 (0,0)),(b8,true,.cells ⟨[.int .i64 0]⟩ 29 (0,0)),(b7,true,.cells ⟨[.int .i64 0]⟩ 3 (0,0)),(b6,true,.cells ⟨[.slice none 0 0]⟩ 33 (0,0)),(b3,true,.cells ⟨[.slice A nw wc]⟩ 26 (0,0))]) g (codesS (canTo most i)) (g3.trans (strsL_codes _).symm) (codes_enc _) (by omega) rfl rfl rfl rfl rfl (by decide) (fun H Q h=> .h h) (fun g' m hv' hn' hb' hl' ht hs'=> ?_));rw[←hv'];have hso:=codes_sorted g4 ht hs';have hl2:g'.l=strsV (sortS (canTo most i)):=by rw[hl',strsL_map,hso];rfl
   have hslen:(sortS (canTo most i)).length=(canTo most i).length:=(sortS_perm _).length_eq;clear hl' ht hs' hso hv';refine U7 ?_;refine .al fun b11=> ?_;refine U9 ?_;refine To.lift (L₂:= []) (L₁:= [(b11,true,.cells ⟨[cheapF b8 b7 b3 b6 b9 b11]⟩ 171 (0,0)),(b9,true,.cells ⟨[g'.val]⟩ 33 (0,0)),(b8,true,.cells ⟨[.int .i64 9]⟩ 29 (0,0)),(b7,true,.cells ⟨[.int .i64 0]⟩ 3 (0,0)),(b6,true,.cells ⟨[.slice none 0 0]⟩ 33 (0,0)),(b3,true,.cells ⟨[.slice A nw wc]⟩ 26 (0,0))]++g'.bl) rfl (fun Hx hx=> ?_);obtain⟨H',h1,h2⟩:=SymSt.unappend (B:= [(b8,true,.cells ⟨[.int .i64 9]⟩ 29 (0,0)),(b7,true,.cells ⟨[.int .i64 0]⟩ 3 (0,0)),(b6,true,.cells ⟨[.slice none 0 0]⟩ 33 (0,0))]) (L:= [(b11,true,.cells ⟨[cheapF b8 b7 b3 b6 b9 b11]⟩ 171 (0,0)),(b9,true,.cells ⟨[g'.val]⟩ 33 (0,0)),(b3,true,.cells ⟨[.slice A nw wc]⟩ 26 (0,0))]++g'.bl) (hx.perm (by
     simp only[List.cons_append,List.nil_append];exact(perm5 _ _ _ _ _ _ _).symm))
   have hcap:ChCap (sortS (canTo most i)) w nw b8 b7 b3 b6 b9 b11 (g'.blk.map fun b=> ⟨b,0,none⟩) A g'.cap wc H':=
     ⟨⟨true,h2.get (i:=0) rfl⟩,⟨true,by have h3:=h2.get (i:=1) rfl;rw[hslen,←g4,←hn'];exact h3⟩,⟨true,h2.get (i:=2) rfl⟩,by
       have h3:=strs_of (g0:=g') g' (H:=H') (fun x hx=> h2.at_ x (List.mem_append_right _ hx)) hl2 rfl rfl;rw[hn',g4,←hslen] at h3;exact h3,(hA.le g1).le h2.base⟩
   refine To.callF rfl rfl rfl rfl rfl rfl (by decide) (FnT.of (first:= []) (captured:= [_,_,_,_,_,_]) ca123 rfl (more2_c M (sortS (canTo most i)) w nw b8 b7 b3 b6 b9 b11 (g'.blk.map fun b=> ⟨b,0,none⟩) A g'.cap wc (by omega) (by rw[hslen];omega) (fun s hs=> mem_canTo ((sortS_perm _).mem_iff.1 hs) (by omega)) hwok nw (Gl.nil 9 1) [] 0 ⟨false,0,[]⟩ none 0 0 H' Hx rfl (Nat.zero_add _) (by decide) hcap rfl ⟨⟨_,_,rfl⟩,rfl,.inl ⟨none,0,rfl,rfl⟩⟩ h1)) (fun v H₃ hv=> ?_);obtain⟨_,H₄,g4',a4,n4,c4,r1,r2,r3,r4,r5⟩:=hv;refine To.expand r2 ?_;unfold stB;refine U2 ?_;refine Tc.dr [] [] mixed rfl ?_;refine .nn 0 ?_;refine .nn 1 ?_;refine .nn 2 ?_;refine Ta.each [3] (by kernel_rfl) rfl ⟨TaOp.mk rfl rfl rfl (.st 2 (zz:=⟨S2.mk (by exact List.Sublist.refl _) (.inr (by exact List.Sublist.refl _)),?_⟩)),trivial⟩;refine Ta.each [4] (by kernel_rfl) rfl ⟨TaOp.mk rfl rfl rfl (.st 1 (zz:=⟨S2.mk (by exact List.Sublist.refl _) (.inr (by exact List.Sublist.refl _)),?_⟩)),trivial⟩;refine Ta.each [5] (by kernel_rfl) rfl ⟨TaOp.mk rfl rfl rfl (.st 0 (zz:=⟨S2.mk (by exact List.Sublist.refl _) (.inr (by exact List.Sublist.refl _)),?_⟩)),trivial⟩;refine .dn ?_;refine .rt hK func53 results53 [_,_,_] ?_;exact fun H' hs=> ⟨View.le_trans g1 (View.le_trans h2.base (View.le_trans r1 hs.base)),a4,n4,c4,rfl,r4,r5.mono hs.base⟩
 · have c2:i<digits:=by omega
   have hal:=allL_len (most:=most) (n:=i+1) (by omega) (by omega);have hlc:([49,50,51,52,53,54,55,56,57]:List UInt8).length=9:=rfl;have hdl:(digs1.take most).length≤1000:=by rw[List.length_take];omega
   refine U14 ?_;refine Tc.drT [7] [6] [0] 5 mixed rfl ?_;refine .oo 0 ?_;refine .oo 1 ?_;refine .oo 2 ?_;refine .oo 3 ?_;refine Ta.tkC 4 (by kernel_rfl) rfl rfl (by decide) rfl rfl (OpV.take (OpV.sliceS (E:=en) rfl rfl rfl rfl rfl rfl (by omega) (by omega) (by omega))) ?_;refine Ta.each [5] (by kernel_rfl) rfl ⟨TaOp.mk rfl rfl rfl (Or.callNew (fun s=> allF s.1.1 s.1.2) (allB2 (i+1) (digs1.take most)) (fun _=> True) rfl rfl rfl rfl rfl (by decide) (allB2_nodup _ _) (fun H hs=> .h (all_n M H (i+1) (digs1.take most))) (fun s _=> ⟨S3.mk (by apply List.Sublist.cons;exact List.sublist_append_left _ _) (.inr (by exact List.sublist_append_left _ _)),?_⟩)),trivial⟩;refine Ta.lift (L₂:= [(b9,true,.cells ⟨[g.val]⟩ 33 (0,0)),(b8,true,.cells ⟨[.int .i64 0]⟩ 29 (0,0)),(b7,true,.cells ⟨[.int .i64 0]⟩ 3 (0,0)),(b6,true,.cells ⟨[.slice none 0 0]⟩ 33 (0,0)),(b3,true,.cells ⟨[.slice A nw wc]⟩ 26 (0,0))]) (L₁:=g.bl++allB2 (i+1) (digs1.take most) s) rfl (fun Hx hx=> ?_);obtain⟨H',h1,h2⟩:=hx.unappend;refine Ta.callF 6 (by kernel_rfl) rfl (by kernel_rfl) rfl rfl rfl rfl rfl rfl (by decide) (FnT.h (AppendSeq_c M g (canTo most i) g3 (by omega) (i+1) (digs1.take most) (by omega) (digs1_dig most) hdl (by omega) s.1.1 s.1.2 H' Hx ⟨⟨true,h2.get (i:=0) rfl⟩,⟨true,h2.get (i:=1) rfl⟩⟩ h1)) (fun v H₃ hv=> ?_);obtain⟨g',H₂,rfl,q1,q2,q3,q4⟩:=hv;refine Ta.expand q2 ?_;refine Ta.each [7] (by kernel_rfl) rfl ⟨TaOp.mk rfl rfl rfl (.st 0 (zz:=⟨S3.off (by kernel_rfl),?_⟩)),trivial⟩;refine .dn ?_;refine U5 ?_;exact Tc.db (ih ⟨(H₂,i+1,g'),View.le_trans g1 (View.le_trans h2.base q1),by simp only;omega,by simp only;rw[canTo_succ];exact q3,by simp only;rw[canTo_succ,List.length_append,q4,g4]⟩ (by simp only;omega))
end
end Go.Proofs.YtdnfdeplcjaonaaGreatDoor
namespace Go.Proofs.YtdnfdeplcjaonaaGreatDoor
open Go.RL Go.Proofs.Tryz
set_option maxRecDepth 10000
theorem ddTo_mem {l:List Int}{x:Int}:∀k,k≤l.length→(x∈ddTo l k↔∃i,i<k∧at0 l i=x)
 | 0,_=> by simp[ddTo]
 | k + 1,hk=> by
   have ih:=ddTo_mem (l:=l) (x:=x) k (by omega);unfold ddTo;split
   · rename_i h
     rw[ih];constructor
     · rintro⟨i,h1,h2⟩;exact⟨i,by omega,h2⟩
     · rintro⟨i,h1,h2⟩;by_cases e:i=k
       · subst e;exact⟨i-1,by omega,by rw[←h.2];exact h2⟩
       · exact⟨i,by omega,h2⟩
   · rw[List.mem_append,ih,List.mem_singleton];constructor
     · rintro(⟨i,h1,h2⟩|rfl)
       · exact⟨i,by omega,h2⟩
       · exact⟨k,by omega,rfl⟩
     · rintro⟨i,h1,h2⟩;by_cases e:i=k
       · subst e;exact .inr h2.symm
       · exact .inl ⟨i,by omega,h2⟩
theorem ddTo_asc {l:List Int}{n:Nat}(hs:Srt 0 n l)(hn:n≤l.length):∀k,k≤n→(ddTo l k).Pairwise (· < ·)
 | 0,_=> List.Pairwise.nil
 | k + 1,hk=> by
   have ih:=ddTo_asc hs hn k (by omega);unfold ddTo;split
   · exact ih
   · rename_i h
     rw[List.pairwise_append];refine⟨ih,List.pairwise_singleton _ _,fun a ha b hb=> ?_⟩;have hb':b=at0 l k:=by simpa using hb
     subst hb';obtain⟨i,h1,rfl⟩:=(ddTo_mem k (by omega)).1 ha;have h2:=hs i (k-1) (Nat.zero_le _);have h3:=hs (k-1) k (Nat.zero_le _) (by omega) (by omega);have h4:at0 l k≠at0 l (k-1):=fun e=> h ⟨by omega,e⟩;by_cases e:i=k-1
     · subst e;omega
     · have:=h2 (by omega) (by omega);omega
theorem Srt.at_mem {l:List Int}{x:Int}:x∈l↔∃i,i<l.length∧at0 l i=x:=by
 rw[List.mem_iff_getElem];constructor
 · rintro⟨i,h,rfl⟩;exact⟨i,h,by unfold at0;rw[List.getElem?_eq_getElem h];rfl⟩
 · rintro⟨i,h,e⟩;refine⟨i,h,?_⟩;unfold at0 at e;rw[List.getElem?_eq_getElem h] at e;exact e
theorem asc_uniq {l m:List Int}(hl:l.Pairwise (· < ·))(hm:m.Pairwise (· < ·))(h:∀x,x∈l↔x∈m):l=m:=by
 have hp:l.Perm m:=(List.perm_ext_iff_of_nodup (List.nodup_iff_pairwise_ne.2 (hl.imp (fun h=> Int.ne_of_lt h))) (List.nodup_iff_pairwise_ne.2 (hm.imp (fun h=> Int.ne_of_lt h)))).2 h;exact List.Perm.eq_of_pairwise (le:=(· ≤·)) (fun a b _ _ h1 h2=> Int.le_antisymm h1 h2) (hl.imp (fun h=> Int.le_of_lt h)) (hm.imp (fun h=> Int.le_of_lt h)) hp
def AscS(l:List (List UInt8)):Prop:=l.Pairwise fun a b=> Op.bytesLess a b=true
theorem ascS_uniq {l m:List (List UInt8)}(hl:AscS l)(hm:AscS m)(h:∀x,x∈l↔x∈m):l=m:=by
 have ne:∀ {a b:List UInt8},Op.bytesLess a b=true→a≠b:=fun h e=> by rw[e,less_irr] at h;cases h
 have hp:l.Perm m:=(List.perm_ext_iff_of_nodup (List.nodup_iff_pairwise_ne.2 (hl.imp ne)) (List.nodup_iff_pairwise_ne.2 (hm.imp ne))).2 h;have le:∀ {a b:List UInt8},Op.bytesLess a b=true→leS a b=true:=fun h=> by unfold leS;rw[less_asym h];rfl
 exact sorted_uniq hp (hl.imp le) (hm.imp le)
def putS(x:List UInt8):List (List UInt8)→List (List UInt8)
 | []=> [x]
 | y::t=> if Op.bytesLess x y then x::y::t else if x=y then y::t else y::putS x t
def ascOf:List (List UInt8)→List (List UInt8)
 | []=> []
 | x::t=> putS x (ascOf t)
theorem mem_putS {x z:List UInt8}:∀l,z∈putS x l↔z=x∨z∈l
 | []=> by simp[putS]
 | y ::t=> by
   unfold putS;split
   · simp
   · split
     · rename_i e
       subst e;simp
     · rw[List.mem_cons,mem_putS t,List.mem_cons];constructor
       · rintro(h|h|h)
         · exact .inr (.inl h)
         · exact .inl h
         · exact .inr (.inr h)
       · rintro(h|h|h)
         · exact .inr (.inl h)
         · exact .inl h
         · exact .inr (.inr h)
theorem putS_asc(x:List UInt8):∀l,AscS l→AscS (putS x l)
 | [],_=> List.pairwise_singleton _ _
 | y ::t,h=> by
   obtain⟨h1,h2⟩:=List.pairwise_cons.1 h;unfold putS;split
   · rename_i hx
     refine List.pairwise_cons.2 ⟨fun z hz=> ?_,h⟩;rcases List.mem_cons.1 hz with rfl|hz
     · exact hx
     · exact less_trans hx (h1 z hz)
   · rename_i hx
     split
     · exact h
     · rename_i hne
       refine List.pairwise_cons.2 ⟨fun z hz=> ?_,putS_asc x t h2⟩;rcases(mem_putS t).1 hz with rfl|hz
       · cases e:Op.bytesLess y z with
         | true=> rfl
         | false=> exact(hne (less_tri (by simpa using hx) e)).elim
       · exact h1 z hz
theorem mem_ascOf {z:List UInt8}:∀l,z∈ascOf l↔z∈l
 | []=> Iff.rfl
 | x::t=> by
   unfold ascOf;rw[mem_putS,mem_ascOf t,List.mem_cons]
theorem ascOf_asc:∀l,AscS (ascOf l)
 | []=> List.Pairwise.nil
 | x::t=> putS_asc x _ (ascOf_asc t)
theorem codes_asc {S:List (List UInt8)}{m:List Int}{n:Nat}(hn:n=S.length)(ht:Turned 0 n (codesS S) m)(hs:Srt 0 n m):(ddTo m n).map (decS S)=ascOf S:=by
 have hml:m.length=n:=by rw[ht.len,hn];simp[codesS]
 have hmem:∀x∈ddTo m n,x∈codesS S:=fun x hx=> by
   obtain⟨i,h1,rfl⟩:=(ddTo_mem n (by omega)).1 hx;exact(ht.mem _).1 (at0_mem (by omega))
 refine ascS_uniq ?_ (ascOf_asc S) (fun z=> ?_)
 · unfold AscS;rw[List.pairwise_map];have h1:=ddTo_asc hs (by omega) n (Nat.le_refl _);refine List.Pairwise.imp_of_mem (fun {a b} ha hb h3=> ?_) h1;rw[codes_enc S a (hmem a ha) b (hmem b hb)];exact decide_eq_true h3
 · rw[mem_ascOf,List.mem_map];constructor
   · rintro⟨x,hx,rfl⟩;obtain⟨s,h1,h2⟩:=List.mem_map.1 (hmem x hx);rw[←h2,dec_rank h1];exact h1
   · intro hz;refine⟨((rankS S z:Nat):Int),?_,dec_rank hz⟩;have h1:((rankS S z:Nat):Int)∈m:=(ht.mem _).2 (List.mem_map.2 ⟨z,hz,rfl⟩);obtain⟨i,h2,h3⟩:=Srt.at_mem.1 h1;exact(ddTo_mem n (by omega)).2 ⟨i,by omega,h3⟩
theorem ascOf_congr {l m:List (List UInt8)}(h:∀x,x∈l↔x∈m):ascOf l=ascOf m:=
 ascS_uniq (ascOf_asc l) (ascOf_asc m) fun x=> by rw[mem_ascOf,mem_ascOf,h]
def putI(x:Int):List Int→List Int
 | []=> [x]
 | y::t=> if x<y then x::y::t else if x=y then y::t else y::putI x t
def ascI:List Int→List Int
 | []=> []
 | x::t=> putI x (ascI t)
theorem mem_putI {x z:Int}:∀l,z∈putI x l↔z=x∨z∈l
 | []=> by simp[putI]
 | y ::t=> by
   unfold putI;split
   · simp
   · split
     · rename_i e
       subst e;simp
     · rw[List.mem_cons,mem_putI t,List.mem_cons];constructor
       · rintro(h|h|h)
         · exact .inr (.inl h)
         · exact .inl h
         · exact .inr (.inr h)
       · rintro(h|h|h)
         · exact .inr (.inl h)
         · exact .inl h
         · exact .inr (.inr h)
theorem putI_asc(x:Int):∀l:List Int,l.Pairwise (· < ·)→(putI x l).Pairwise (· < ·)
 | [],_=> List.pairwise_singleton _ _
 | y ::t,h=> by
   obtain⟨h1,h2⟩:=List.pairwise_cons.1 h;unfold putI;split
   · rename_i hx
     refine List.pairwise_cons.2 ⟨fun z hz=> ?_,h⟩;rcases List.mem_cons.1 hz with rfl|hz
     · exact hx
     · have:=h1 z hz;omega
   · rename_i hx
     split
     · exact h
     · rename_i hne
       refine List.pairwise_cons.2 ⟨fun z hz=> ?_,putI_asc x t h2⟩;rcases(mem_putI t).1 hz with rfl|hz
       · omega
       · exact h1 z hz
theorem mem_ascI {z:Int}:∀l,z∈ascI l↔z∈l
 | []=> Iff.rfl
 | x::t=> by
   unfold ascI;rw[mem_putI,mem_ascI t,List.mem_cons]
theorem ascI_asc:∀l,(ascI l).Pairwise (· < ·)
 | []=> List.Pairwise.nil
 | x::t=> putI_asc x _ (ascI_asc t)
theorem ints_asc {S m:List Int}{n:Nat}(hn:n=S.length)(ht:Turned 0 n S m)(hs:Srt 0 n m):ddTo m n=ascI S:=by
 have hml:m.length=n:=by rw[ht.len,hn]
 refine asc_uniq (ddTo_asc hs (by omega) n (Nat.le_refl _)) (ascI_asc S) (fun z=> ?_);rw[mem_ascI,ddTo_mem n (by omega),←ht.mem z,Srt.at_mem,hml]
set_option maxHeartbeats 4000000
def wordsL(can:List (List UInt8)):Nat→List (List UInt8)→List (List (List UInt8))
 | 0,l=> [l]
 | d+1,l=> can.flatMap fun s=> if nearL l s then [] else wordsL can d (l++[s])
def costF(w:Nat→Int):Nat→List (List UInt8)→Int
 | _,[]=> 0
 | i,s::t=> w i*(takenN s:Nat)+costF w (i+1) t
def costL(w:Nat→Int)(l:List (List UInt8)):Int:=costF w 0 l
theorem costF_app(w:Nat→Int):∀(i:Nat) (l m:List (List UInt8)),costF w i (l++m)=costF w i l+costF w (i+l.length) m
 | i,[],m=> by simp[costF]
 | i,s::l,m=> by
   show _+costF w (i+1) (l++m)=_+costF w (i+1) l+_;rw[costF_app w (i+1) l m,List.length_cons,show i+1+l.length=i+(l.length+1) by omega];omega
theorem costL_snoc(w:Nat→Int)(l:List (List UInt8))(s:List UInt8):costL w (l++[s])=costL w l+w l.length*(takenN s:Nat):=by
 unfold costL;rw[costF_app];simp[costF]
theorem costF_nn {w:Nat→Int}{n:Nat}(hw:∀i,i<n→0≤w i):∀(m:List (List UInt8)) (i:Nat),i+m.length≤n→0≤costF w i m
 | [],_,_=> Int.le_refl _
 | s::m,i,h=> by
   rw[List.length_cons] at h;have h1:=costF_nn hw m (i+1) (by omega);have h2:=Int.mul_nonneg (hw i (by omega)) (Int.natCast_nonneg (takenN s));show 0≤w i*(takenN s:Nat)+costF w (i+1) m;omega
theorem mem_words {can:List (List UInt8)}:∀(d:Nat) (l t:List (List UInt8)),t∈wordsL can d l→∃m,t=l++m∧m.length=d∧∀s∈m,s∈can
 | 0,l,t,h=> by
   rw[List.mem_singleton.1 h];exact⟨[],by simp,rfl,fun s h=> (nomatch h)⟩
 | d + 1,l,t,h=> by
   obtain⟨s,hs,h2⟩:=List.mem_flatMap.1 h;split at h2
   · cases h2
   · obtain⟨m,rfl,h3,h4⟩:=mem_words d _ t h2;refine⟨s::m,by simp,by simp[h3],fun y hy=> ?_⟩;rcases List.mem_cons.1 hy with rfl|hy
     · exact hs
     · exact h4 y hy
theorem words_congr {can can':List (List UInt8)}(hc:∀s,s∈can↔s∈can'):∀(d:Nat) (l t:List (List UInt8)),t∈wordsL can d l↔t∈wordsL can' d l
 | 0,l,t=> Iff.rfl
 | d + 1,l,t=> by
   show t∈can.flatMap _↔t∈can'.flatMap _;simp only[List.mem_flatMap];constructor
   · rintro⟨s,h1,h2⟩;refine⟨s,(hc s).1 h1,?_⟩;split at h2
     · cases h2
     · rename_i h3
       rw[if_neg h3];exact(words_congr hc d _ t).1 h2
   · rintro⟨s,h1,h2⟩;refine⟨s,(hc s).2 h1,?_⟩;split at h2
     · cases h2
     · rename_i h3
       rw[if_neg h3];exact(words_congr hc d _ t).2 h2
def pickW(w:Nat→Int)(st:ChSt)(t:List (List UInt8)):ChSt:=if st.done=true∧costL w t≥st.total then st else⟨true,costL w t,t⟩
theorem pick_stay {w:Nat→Int}{st:ChSt}(hd:st.done=true):∀L:List (List (List UInt8)),(∀t∈L,costL w t≥st.total)→L.foldl (pickW w) st=st
 | [],_=> rfl
 | t::L,h=> by
   have e:pickW w st t=st:=if_pos ⟨hd,h t (List.mem_cons_self ..)⟩;rw[List.foldl_cons,e];exact pick_stay hd L fun y hy=> h y (List.mem_cons_of_mem _ hy)
theorem foldl_flat {α β γ:Type}(f:α→List β)(g:γ→β→γ):∀(l:List α) (i:γ),(l.flatMap f).foldl g i=l.foldl (fun acc x=> (f x).foldl g acc) i
 | [],_=> rfl
 | x::l,i=> by
   rw[List.flatMap_cons,List.foldl_append,List.foldl_cons];exact foldl_flat f g l _
theorem cheapGo_fold {can:List (List UInt8)}{w:Nat→Int}{n:Nat}(hw:∀i,i<n→0≤w i):∀(d:Nat) (l:List (List UInt8)) (st:ChSt),l.length+d=n→cheapGo can w d l (costL w l) st=(wordsL can d l).foldl (pickW w) st
 | 0,l,st,_=> rfl
 | d + 1,l,st,hn=> by
   have e:cheapGo can w (d+1) l (costL w l) st=if st.done=true∧costL w l≥st.total then st else can.foldl (fun st s=> if nearL l s then st else cheapGo can w d (l++[s]) (costL w l+w l.length*(takenN s:Nat)) st) st:=rfl
   rw[e];split
   · rename_i h
     refine(pick_stay h.1 _ fun t ht=> ?_).symm;obtain⟨m,rfl,h1,_⟩:=mem_words _ _ _ ht;have h2:=costF_nn hw m l.length (by omega);have h3:costL w (l++m)=costL w l+costF w (0+l.length) m:=costF_app w 0 l m;rw[Nat.zero_add] at h3;have h4:=h.2;omega
   · show _=(can.flatMap fun s=> if nearL l s then [] else wordsL can d (l++[s])).foldl (pickW w) st;rw[foldl_flat]
     congr 1
     funext acc s
     split
     · rfl
     · rw[←costL_snoc];exact cheapGo_fold hw d (l++[s]) acc (by rw[List.length_append];show l.length+1+d=n;omega)
def lexB:List (List UInt8)→List (List UInt8)→Bool
 | x::a,y::b=> if x=y then lexB a b else Op.bytesLess x y
 | _,_=> false
theorem lexB_irr:∀l,lexB l l=false
 | []=> rfl
 | x::l=> by
   show(if x=x then lexB l l else _)=false;rw[if_pos rfl];exact lexB_irr l
theorem lexB_app:∀(l a b:List (List UInt8)),lexB (l++a) (l++b)=lexB a b
 | [],_,_=> rfl
 | x::l,a,b=> by
   show(if x=x then lexB (l++a) (l++b) else _)=_;rw[if_pos rfl];exact lexB_app l a b
theorem lexB_tri:∀ {a b:List (List UInt8)},a.length=b.length→lexB a b=false→lexB b a=false→a=b
 | [],[],_,_,_=> rfl
 | x ::a,y::b,hl,h1,h2=> by
   have h1':(if x=y then lexB a b else Op.bytesLess x y)=false:=h1;have h2':(if y=x then lexB b a else Op.bytesLess y x)=false:=h2;by_cases q:x=y
   · subst q;rw[if_pos rfl] at h1' h2';rw[lexB_tri (by simpa using hl) h1' h2']
   · rw[if_neg q] at h1';rw[if_neg (fun h=> q h.symm)] at h2';exact(q (less_tri h1' h2')).elim
theorem lexB_trans:∀ {a b c:List (List UInt8)},lexB a b=true→lexB b c=true→lexB a c=true
 | [],_,_,h,_=> (nomatch h)
 | _::_,[],_,h,_=> (nomatch h)
 | _::_,_::_,[],_,h=> (nomatch h)
 | x ::a,y::b,z::c,h1,h2=> by
   have h1':(if x=y then lexB a b else Op.bytesLess x y)=true:=h1;have h2':(if y=z then lexB b c else Op.bytesLess y z)=true:=h2;show(if x=z then lexB a c else Op.bytesLess x z)=true;by_cases q:x=y
   · subst q;rw[if_pos rfl] at h1';by_cases r:x=z
     · subst r;rw[if_pos rfl] at h2' ⊢;exact lexB_trans h1' h2'
     · rw[if_neg r] at h2' ⊢;exact h2'
   · rw[if_neg q] at h1';by_cases r:y=z
     · subst r;rw[if_neg q];exact h1'
     · rw[if_neg r] at h2';have h3:=less_trans h1' h2';have h4:x≠z:=fun e=> by
         subst e;rw[less_irr] at h3;cases h3
       rw[if_neg h4];exact h3
theorem words_asc {can:List (List UInt8)}(hc:AscS can):∀(d:Nat) (l:List (List UInt8)),(wordsL can d l).Pairwise (fun x y=> lexB y x=false)
 | 0,l=> List.pairwise_singleton ..
 | d + 1,l=> by
   show(can.flatMap fun s=> if nearL l s then [] else wordsL can d (l++[s])).Pairwise _;refine List.pairwise_flatMap.2 ⟨fun s _=> ?_,hc.imp fun {a b} hab x hx y hy=> ?_⟩
   · split
     · exact List.Pairwise.nil
     · exact words_asc hc d _
   · split at hx
     · cases hx
     split at hy
     · cases hy
     obtain⟨m1,rfl,_⟩:=mem_words _ _ _ hx;obtain⟨m2,rfl,_⟩:=mem_words _ _ _ hy;rw[List.append_assoc,List.append_assoc,lexB_app];show(if b=a then lexB m2 m1 else Op.bytesLess b a)=false;have h1:=less_asym hab;have h2:b≠a:=fun e=> by
       subst e;rw[less_irr] at hab;cases hab
     rw[if_neg h2];exact h1
def Least(w:Nat→Int)(L:List (List (List UInt8)))(b:List (List UInt8)):Prop:=b∈L∧∀t∈L,costL w b≤costL w t∧(costL w t=costL w b→lexB t b=false)
theorem fold_least {w:Nat→Int}:∀(L:List (List (List UInt8))) (b:List (List UInt8)),(b::L).Pairwise (fun x y=> lexB y x=false)→∃b',L.foldl (pickW w) ⟨true,costL w b,b⟩=⟨true,costL w b',b'⟩∧Least w (b::L) b'∧(b'=b∨costL w b'<costL w b)
 | [],b,_=> ⟨b,rfl,⟨List.mem_singleton.2 rfl,fun t ht=> by rw[List.mem_singleton.1 ht];exact⟨Int.le_refl _,fun _=> lexB_irr b⟩⟩,.inl rfl⟩
 | y ::L,b,hp=> by
   have hp1:=List.pairwise_cons.1 hp;by_cases c:costL w y≥costL w b
   · have e:pickW w ⟨true,costL w b,b⟩ y=⟨true,costL w b,b⟩:=if_pos ⟨rfl,c⟩;rw[List.foldl_cons,e];obtain⟨b',h1,⟨h2,h3⟩,h4⟩:=fold_least L b (List.pairwise_cons.2 ⟨fun z hz=> hp1.1 z (List.mem_cons_of_mem _ hz),(List.pairwise_cons.1 hp1.2).2⟩);refine⟨b',h1,⟨?_,fun t ht=> ?_⟩,h4⟩
     · rcases List.mem_cons.1 h2 with h|h
       · rw[h];exact List.mem_cons_self ..
       · exact List.mem_cons_of_mem _ (List.mem_cons_of_mem _ h)
     · rcases List.mem_cons.1 ht with rfl|ht
       · exact h3 _ (List.mem_cons_self ..)
       rcases List.mem_cons.1 ht with rfl|ht
       · have h5:=(h3 b (List.mem_cons_self ..)).1;refine⟨by omega,fun h6=> ?_⟩;rcases h4 with rfl|h4
         · exact hp1.1 _ (List.mem_cons_self ..)
         · omega
       · exact h3 t (List.mem_cons_of_mem _ ht)
   · have e:pickW w ⟨true,costL w b,b⟩ y=⟨true,costL w y,y⟩:=if_neg fun h=> c h.2;rw[List.foldl_cons,e];obtain⟨b',h1,⟨h2,h3⟩,h4⟩:=fold_least L y hp1.2;have h5:=(h3 y (List.mem_cons_self ..)).1;refine⟨b',h1,⟨List.mem_cons_of_mem _ h2,fun t ht=> ?_⟩,.inr (by omega)⟩;rcases List.mem_cons.1 ht with rfl|ht
     · exact⟨by omega,fun h6=> by omega⟩
     · exact h3 t ht
theorem least_uniq {w:Nat→Int}{L L':List (List (List UInt8))}(hm:∀t,t∈L↔t∈L'){b b':List (List UInt8)}(hl:b.length=b'.length)(h:Least w L b)(h':Least w L' b'):b=b':=by
 obtain⟨h1,h2⟩:=h;obtain⟨h3,h4⟩:=h';have h5:=h2 b' ((hm _).2 h3);have h6:=h4 b ((hm _).1 h1);have h7:costL w b=costL w b':=by omega
 exact lexB_tri hl (h6.2 h7) (h5.2 h7.symm)
def better(w:Nat→Int)(t b:List (List UInt8)):Bool:=decide (costL w t<costL w b)||(decide (costL w t=costL w b)&&lexB t b)
theorem least_step {w:Nat→Int}{L:List (List (List UInt8))}{b t:List (List UInt8)}(h:Least w L b):Least w (L++[t]) (if better w t b=true then t else b):=by
 obtain⟨h1,h2⟩:=h;unfold better;by_cases c1:costL w t<costL w b
 · rw[if_pos (by simp[c1])];refine⟨by simp,fun u hu=> ?_⟩;rcases List.mem_append.1 hu with hu|hu
   · have:=(h2 u hu).1;exact⟨by omega,fun h=> by omega⟩
   · rw[List.mem_singleton.1 hu];exact⟨Int.le_refl _,fun _=> lexB_irr t⟩
 · by_cases c2:costL w t=costL w b∧lexB t b=true
   · rw[if_pos (by simp[c2.1,c2.2])];refine⟨by simp,fun u hu=> ?_⟩;rcases List.mem_append.1 hu with hu|hu
     · have h3:=h2 u hu;refine⟨by omega,fun h4=> ?_⟩;have h5:=h3.2 (by omega);cases q:lexB u t with
       | false=> rfl
       | true=> rw[lexB_trans q c2.2] at h5;cases h5
     · rw[List.mem_singleton.1 hu];exact⟨Int.le_refl _,fun _=> lexB_irr t⟩
   · rw[if_neg (by
       intro h;simp only[Bool.or_eq_true,Bool.and_eq_true,decide_eq_true_eq] at h;rcases h with h|h
       · exact c1 h
       · exact c2 h)]
     refine⟨List.mem_append_left _ h1,fun u hu=> ?_⟩;rcases List.mem_append.1 hu with hu|hu
     · exact h2 u hu
     · rw[List.mem_singleton.1 hu];refine⟨by omega,fun h=> ?_⟩;cases q:lexB t b with
       | false=> rfl
       | true=> exact(c2 ⟨h,q⟩).elim
theorem canTo_nodup:∀most,most<4→∀digits,digits<4→(canTo most digits).Nodup:=by decide +kernel
theorem sortS_asc {l:List (List UInt8)}(h:l.Nodup):AscS (sortS l):=by
 have h1:(sortS l).Nodup:=(sortS_perm l).nodup_iff.2 h;have h2:=sortS_sorted l;unfold AscS;refine(h1.and h2).imp fun {a b} hab=> ?_;have h3:Op.bytesLess b a=false:=by simpa [leS] using hab.2
 cases q:Op.bytesLess a b with
 | true=> rfl
 | false=> exact(hab.1 (less_tri q h3)).elim
theorem cheap_none {w:Nat→Int}{nw digits most:Nat}(hw:∀i,i<nw→0≤w i)(h:wordsL (canTo most digits) nw []= []):cheap w nw digits most=⟨false,0,[]⟩:=by
 have e:cheap w nw digits most=(wordsL (sortS (canTo most digits)) nw []).foldl (pickW w) ⟨false,0,[]⟩:=cheapGo_fold (n:=nw) hw nw [] _ (by simp);have e2:wordsL (sortS (canTo most digits)) nw []= []:=by
   refine List.eq_nil_iff_forall_not_mem.2 fun t ht=> ?_;have:=(words_congr (fun s=> (sortS_perm (canTo most digits)).mem_iff) nw [] t).1 ht;rw[h] at this;cases this
 rw[e,e2];rfl
theorem cheap_least {w:Nat→Int}{nw digits most:Nat}(hw:∀i,i<nw→0≤w i)(hm:most<4)(hd:digits<4){b:List (List UInt8)}(hb:Least w (wordsL (canTo most digits) nw []) b):cheap w nw digits most=⟨true,costL w b,b⟩:=by
 have e:cheap w nw digits most=(wordsL (sortS (canTo most digits)) nw []).foldl (pickW w) ⟨false,0,[]⟩:=cheapGo_fold (n:=nw) hw nw [] _ (by simp);have hm':=fun t=> words_congr (fun s=> (sortS_perm (canTo most digits)).mem_iff) nw [] t;have ha:=words_asc (sortS_asc (canTo_nodup most hm digits hd)) nw [];have hlen:∀t,t∈wordsL (canTo most digits) nw []→t.length=nw:=fun t ht=> by
   obtain⟨m,rfl,h1,_⟩:=mem_words _ _ _ ht;simpa using h1
 rw[e];generalize wordsL (sortS (canTo most digits)) nw []=L at ha hm';cases L with
 | nil=>
   have:=(hm' b).2 hb.1;cases this
 | cons y L=>
   have e1:pickW w ⟨false,0,[]⟩ y=⟨true,costL w y,y⟩:=if_neg fun h=> Bool.noConfusion h.1;obtain⟨b',h1,h2,_⟩:=fold_least (w:=w) L y ha;rw[List.foldl_cons,e1,h1];have h3:b'=b:=least_uniq hm' (by rw[hlen b' ((hm' _).1 h2.1),hlen b hb.1]) h2 hb;rw[h3]
set_option maxHeartbeats 8000000
section
variable(M:Md prog)(H:View)
theorem SameWords_c(A B:Option Addr)(n m ac bc:Nat)(x y:Nat→List UInt8)(hA:StrsAt H A n x)(hB:StrsAt H B m y)(hn:n≤100000000)(hm:m≤100000000)(t:Bool)(ht:(decide (n=m)&&allB (fun i=> decide (x i=y i)) n)=t):
   CallT M 25 #[.slice A n ac,.slice B m bc] H (fun v H'=> H.le H'∧v=.bool t):=by
 rw[←ht];clear ht;refine .en func25 ntmps25 fun St c cs hK=> ?_;by_cases c0:n=m
 · subst c0;rw[decide_eq_true rfl,Bool.true_and] at hK;refine U21 ?_;refine Tc.db (Tc.loopInv (σ:= { j:Nat//j≤n∧∀i,i<j→x i=y i }) (fun j=> ([(0,.slice A n ac),(1,.slice B n bc),(5,.int .i64 (j.1:Nat))],[])) (fun j=> n-j.1) ?_ ⟨0,Nat.zero_le _,fun i hi=> by omega⟩);rintro⟨j,hj,hall⟩ ih;show Tc M St _ _ _ _ [(0,.slice A n ac),(1,.slice B n bc),(5,.int .i64 (j:Nat))] [] _ _;by_cases c1:j=n
   · have e:allB (fun i=> decide (x i=y i)) n=true:=(allB_iff n).2 (fun i hi=> decide_eq_true (hall i (by omega)));subst c1;rw[e] at hK;refine U14 ?_;refine .rt hK func25 results25 [_] ?_;exact okB
   · have c2:j<n:=by omega
     obtain h0|⟨ab,ao,fa,gs,gt,gz,rfl,hab,hal⟩:=hA
     · omega
     obtain h0|⟨bb,bo,fb,ks,kt,kz,rfl,hbb,hbl⟩:=hB
     · omega
     have f1:=hal j c2;have f2:=hbl j c2;by_cases c3:x j=y j
     · have f3:RL.strB .neq (x j) (y j)=some (.bool false):=by simp[RL.strB,c3]
       refine U13 ?_;refine Tc.dr [] [] mixed rfl ?_;refine .nn 0 ?_;refine .nn 1 ?_;refine .nn 2 ?_;refine .nn 3 ?_;refine .nn 4 ?_;refine .nn 5 ?_;refine .nn 6 ?_;refine .nn 7 ?_;refine .nn 8 ?_;refine .dn ?_;refine U8 ?_;exact Tc.db (ih ⟨j+1,by omega,fun i hi=> by by_cases e:i=j;exact e▸c3;exact hall i (by omega)⟩ (by simp only;omega))
     · have f3:RL.strB .neq (x j) (y j)=some (.bool true):=by simp[RL.strB,c3]
       have e:allB (fun i=> decide (x i=y i)) n=false:=allB_not c2 (decide_eq_false c3);rw[e] at hK;refine U13 ?_;refine Tc.dr [] [] mixed rfl ?_;refine .nn 0 ?_;refine .nn 1 ?_;refine .nn 2 ?_;refine .nn 3 ?_;refine .nn 4 ?_;refine .nn 5 ?_;refine .nn 6 ?_;refine .nn 7 ?_;refine .nn 8 ?_;refine .dn ?_;refine U5 ?_;refine .rt hK func25 results25 [_] ?_;exact okB
 · rw[decide_eq_false c0,Bool.false_and] at hK;refine U18 ?_;refine .rt hK func25 results25 [_] ?_;exact okB
theorem SameClaims_c(A B:Option Addr)(n m ac bc:Nat)(x y:Nat→Int)(hA:FreeAt H A n x)(hB:FreeAt H B m y)(hn:n≤1000000)(hm:m≤1000000)(t:Bool)(ht:(decide (n=m)&&allB (fun i=> decide (x i=y i)) n)=t):
   CallT M 28 #[.slice A n ac,.slice B m bc] H (fun v H'=> H.le H'∧v=.bool t):=by
 rw[←ht];clear ht;refine .en func28 ntmps28 fun St c cs hK=> ?_;by_cases c0:n=m
 · subst c0;rw[decide_eq_true rfl,Bool.true_and] at hK;refine U21 ?_;refine Tc.db (Tc.loopInv (σ:= { j:Nat//j≤n∧∀i,i<j→x i=y i }) (fun j=> ([(0,.slice A n ac),(1,.slice B n bc),(5,.int .i64 (j.1:Nat))],[])) (fun j=> n-j.1) ?_ ⟨0,Nat.zero_le _,fun i hi=> by omega⟩);rintro⟨j,hj,hall⟩ ih;show Tc M St _ _ _ _ [(0,.slice A n ac),(1,.slice B n bc),(5,.int .i64 (j:Nat))] [] _ _;by_cases c1:j=n
   · have e:allB (fun i=> decide (x i=y i)) n=true:=(allB_iff n).2 (fun i hi=> decide_eq_true (hall i (by omega)));subst c1;rw[e] at hK;refine U14 ?_;refine .rt hK func28 results28 [_] ?_;exact okB
   · have c2:j<n:=by omega
     obtain h0|⟨ab,ao,fa,gs,gt,gz,rfl,hab,hal⟩:=hA
     · omega
     obtain h0|⟨bb,bo,fb,ks,kt,kz,rfl,hbb,hbl⟩:=hB
     · omega
     have f1:=hal j c2;have f2:=hbl j c2;by_cases c3:x j=y j
     · skip
       refine U13 ?_;refine Tc.dr [] [] mixed rfl ?_;refine .nn 0 ?_;refine .nn 1 ?_;refine .nn 2 ?_;refine .nn 3 ?_;refine .nn 4 ?_;refine .nn 5 ?_;refine .nn 6 ?_;refine .nn 7 ?_;refine .nn 8 ?_;refine .dn ?_;refine U8 ?_;exact Tc.db (ih ⟨j+1,by omega,fun i hi=> by by_cases e:i=j;exact e▸c3;exact hall i (by omega)⟩ (by simp only;omega))
     · skip
       have e:allB (fun i=> decide (x i=y i)) n=false:=allB_not c2 (decide_eq_false c3);rw[e] at hK;refine U13 ?_;refine Tc.dr [] [] mixed rfl ?_;refine .nn 0 ?_;refine .nn 1 ?_;refine .nn 2 ?_;refine .nn 3 ?_;refine .nn 4 ?_;refine .nn 5 ?_;refine .nn 6 ?_;refine .nn 7 ?_;refine .nn 8 ?_;refine .dn ?_;refine U5 ?_;refine .rt hK func28 results28 [_] ?_;exact okB
 · rw[decide_eq_false c0,Bool.false_and] at hK;refine U18 ?_;refine .rt hK func28 results28 [_] ?_;exact okB
theorem claims_c(A B:Option Addr)(n m ac bc:Nat)(x y:Nat→Int)(hA:FreeAt H A n x)(hB:FreeAt H B m y)(hn:n≤1000000)(hm:m≤1000000)(t:Bool)(ht:(decide (n=m)&&allB (fun i=> decide (x i=y i)) n)=t):
   CallT M 80 #[.slice A n ac,.slice B m bc] H (fun v H'=> H.le H'∧v=.bool t):=by
 refine .en func80 ntmps80 fun St c cs hK=> ?_;refine U8 ?_;refine .c rfl rfl rfl rfl (fun H hs=> .h (SameClaims_c M H A B n m ac bc x y (hA.le hs.base) (hB.le hs.base) hn hm t ht)) ?_;refine U2 ?_;refine .rt hK func80 results80 [_] ?_;exact okB
end
section
variable(M:Md prog)(H:View)
theorem In_c(x lo hi:Int)(t:Bool)(ht:decide (lo≤x∧x≤hi)=t):CallT M 44 #[.int .i64 x,.int .i64 lo,.int .i64 hi] H (fun v H'=> H.le H'∧v=.bool t):=by
 rw[←ht];refine .en func44 ntmps44 fun St c cs hK=> ?_;by_cases c1:lo≤x
 all_goals by_cases c2:x≤hi
 all_goals
   refine U8 ?_;refine .i ?_ (z:=by first|exact geq_t (by omega)|exact geq_f (by omega));refine U ?_;first|(refine .sk ?_)|(refine .m ?_)
   first|(refine .sk ?_)|(refine .m ?_)
   first|(refine .sk ?_)|(refine .x (.it (zz:=(by first|exact leq_t (by omega)|exact leq_f (by omega)))) ?_)
   refine U3 ?_;refine .rt hK func44 results44 [_] ?_;exact fun H' hs=> ⟨hs.base,by simp[packV,c1,c2]⟩
theorem Begins_c(s p:List UInt8)(t:Bool)(ht:begins s p=t):CallT M 152 #[strV s,strV p] H (fun v H'=> H.le H'∧v=.bool t):=by
 rw[←ht];refine .en func152 ntmps152 fun St c cs hK=> ?_;by_cases c1:p.length≤s.length
 · have e:begins s p=(s.take p.length==p):=by unfold begins;simp[c1]
   rw[e] at hK;refine U15 ?_;refine .x (OpV.sliceS (E:=en) rfl rfl rfl rfl rfl rfl (by omega) (by omega) (by omega)) ?_;refine U5 ?_;refine .rt hK func152 results152 [_] ?_;exact fun H' hs=> ⟨hs.base,by simp[packV]⟩
 · have e:begins s p=false:=by unfold begins;simp[c1]
   rw[e] at hK;refine U21 ?_;refine .rt hK func152 results152 [_] ?_;exact okB
theorem all_not {s:List UInt8}{j:Nat}{x:UInt8}(h:s[j]? =some x)(hx:dig x=false):s.all dig=false:=by
 rw[List.all_eq_false];exact⟨x,List.mem_of_getElem? h,by rw[hx];decide⟩
theorem IsNumberR_c(s:List UInt8)(hl:s.length≤1000000)(t:Bool)(ht:isNum s=t):CallT M 135 #[strV s] H (fun v H'=> H.le H'∧v=.bool t):=by
 rw[←ht];clear ht;refine .en func135 ntmps135 fun St c cs hK=> ?_;refine U10 ?_;refine Tc.db (Tc.loopInv (σ:= { j:Nat//j≤s.length∧∀i x,i<j→s[i]? =some x→dig x=true }) (fun j=> ([(0,strV s),(3,.int .i64 (j.1:Nat))],[])) (fun j=> s.length-j.1) ?_ ⟨0,Nat.zero_le _,fun i x hi=> by omega⟩);rintro⟨j,hj,hall⟩ ih;show Tc M St _ _ _ _ [(0,strV s),(3,.int .i64 (j:Nat))] [] _ _;by_cases c1:j=s.length
 · have e:s.all dig=true:=List.all_eq_true.2 fun x hx=> by
     obtain⟨i,hi,rfl⟩:=List.mem_iff_getElem.1 hx;exact hall i _ (by omega) (List.getElem?_eq_getElem hi)
   have e2:isNum s=decide (1≤((s.length:Nat):Int)∧((s.length:Nat):Int)≤3):=by
     unfold isNum;rw[e,Bool.and_true];exact decide_eq_decide.2 (by omega)
   rw[e2] at hK;subst c1;refine U14 ?_;refine .c rfl rfl rfl rfl (fun H hs=> .h (In_c M H (s.length:Nat) 1 3 _ rfl)) ?_;refine U2 ?_;refine .rt hK func135 results135 [_] ?_;exact okB
 · have c2:j<s.length:=by omega
   obtain⟨x,hx⟩:∃x,s[j]? =some x:=⟨_,List.getElem?_eq_getElem c2⟩
   have f1:s[((j:Nat):Int).toNat]? =some x:=by rw[Int.toNat_natCast];exact hx
   cases hd:dig x with
   | true=>
     have:=of_decide_eq_true hd;refine U33 ?_;exact Tc.db (ih ⟨j+1,by omega,fun i y hi hy=> by
       by_cases e:i=j
       · subst e;rw[hx] at hy;cases hy;exact hd
       · exact hall i y (by omega) hy⟩ (by simp only;omega))
   | false=>
     have e:isNum s=false:=by unfold isNum;rw[all_not hx hd];simp
     have hnd:=of_decide_eq_false hd;rw[e] at hK;by_cases c3:x.toNat<48
     · refine U30 ?_;refine .rt hK func135 results135 [_] ?_;exact okB
     · have c4:57<x.toNat:=by omega
       refine U30 ?_;refine .rt hK func135 results135 [_] ?_;exact okB
end
section
variable(M:Md prog)(H:View)
end
section
variable(M:Md prog)(H:View)
end
section
variable(M:Md prog)(H:View)
end
set_option maxHeartbeats 16000000
section
variable(M:Md prog)(H:View)
theorem Lesser_eq(A B:Option Addr)(n ac bc:Nat)(x y:Nat→Int)(hA:FreeAt H A n x)(hB:FreeAt H B n y)(hn:n≤1000000)(he:∀i,i<n→x i=y i):
   CallT M 134 #[.slice A n ac,.slice B n bc] H (fun v H'=> H.le H'∧v=.bool false):=by
 refine .en func134 ntmps134 fun St c cs hK=> ?_;refine U10 ?_;refine Tc.db (Tc.loopInv (σ:= { j:Nat//j≤n }) (fun j=> ([(0,.slice A n ac),(1,.slice B n bc),(5,.int .i64 (j.1:Nat))],[])) (fun j=> n-j.1) ?_ ⟨0,Nat.zero_le _⟩);rintro⟨j,hj⟩ ih;show Tc M St _ _ _ _ [(0,.slice A n ac),(1,.slice B n bc),(5,.int .i64 (j:Nat))] [] _ _;by_cases c1:j=n
 · subst c1;refine U25 ?_;refine .rt hK func134 results134 [_] ?_;exact okB
 · have c2:j<n:=by omega
   obtain h0|⟨ab,ao,fa,gs,gt,gz,rfl,hab,hal⟩:=hA
   · omega
   obtain h0|⟨bb,bo,fb,ks,kt,kz,rfl,hbb,hbl⟩:=hB
   · omega
   have f1:=hal j c2;have f2:=hbl j c2;have f3:=he j c2;refine U19 ?_;refine Tc.dr [] [] mixed rfl ?_;refine .nn 0 ?_;refine .nn 1 ?_;refine .nn 2 ?_;refine .nn 3 ?_;refine .nn 4 ?_;refine .nn 5 ?_;refine .nn 6 ?_;refine .nn 7 ?_;refine .nn 8 ?_;refine .dn ?_;refine U8 ?_;exact Tc.db (ih ⟨j+1,by omega⟩ (by simp only;omega))
theorem SameNums_eq(A B:Option Addr)(n ac bc:Nat)(x y:Nat→Int)(hA:FreeAt H A n x)(hB:FreeAt H B n y)(hn:n≤1000000)(he:∀i,i<n→x i=y i):
   CallT M 62 #[.slice A n ac,.slice B n bc] H (fun v H'=> H.le H'∧v=.bool true):=by
 refine .en func62 ntmps62 fun St c cs hK=> ?_;refine U8 ?_;refine .c rfl rfl rfl rfl (fun H hs=> .h (Lesser_eq M H A B n ac bc x y (hA.le hs.base) (hB.le hs.base) hn he)) ?_;refine U4 ?_;refine .c rfl rfl rfl rfl (fun H hs=> .h (Lesser_eq M H B A n bc ac y x (hB.le hs.base) (hA.le hs.base) hn (fun i hi=> (he i hi).symm))) ?_;refine U4 ?_;refine .rt hK func62 results62 [_] ?_;exact okB
theorem to_c(a b:Int):CallT M 74 #[.int .i64 a,.int .i64 b] H (fun v H'=> H.le H'∧v=bandV a b):=by
 refine .en func74 ntmps74 fun St c cs hK=> ?_;refine U2 ?_;refine .al fun b4=> ?_;refine U8 ?_;refine .rt hK func74 results74 [_] ?_;exact okB
theorem train_c(p q:Int):CallT M 79 #[.int .i64 p,.int .i64 q] H (fun v H'=> H.le H'∧v=trainV p p q q):=by
 refine .en func79 ntmps79 fun St c cs hK=> ?_;refine U2 ?_;refine .al fun b4=> ?_;refine U5 ?_;refine .c rfl rfl rfl rfl (fun H hs=> .h (to_c M H p p)) ?_;refine U2 ?_;refine .c rfl rfl rfl rfl (fun H hs=> .h (to_c M H q q)) ?_;refine U3 ?_;refine .rt hK func79 results79 [_] ?_;exact okB
end
def exName(i:Nat):List UInt8:= [[97,110,110],[98,111,98],[101,118,101]][i]?.getD []
def exNum(i:Nat):List UInt8:= [[49,50],[49,51],[50]][i]?.getD []
def exNf(i:Nat):Nat:= [1,2,1][i]?.getD 0
def exFree(i j:Nat):Int:=([[1],[2,1],[0]][i]?.getD [])[j]?.getD 0
def exAt(l:List Int)(i:Nat):Int:=l[i]?.getD 0
def bkD:Bk:=⟨5,20,3,exName,exNum,exNf,exFree,2,exAt [1,2],exAt [1,3],exAt [8,6],exAt [8,6]⟩
def bkE:Bk:=⟨5,20,3,exName,exNum,exNf,exFree,3,exAt [1,1,2],exAt [1,1,2],exAt [3,9,9],exAt [6,9,9]⟩
def bkO:Bk:=bkD.now 1 2 2 6 6
def exF(b0 b1 b2:Nat)(i:Nat):Option Addr:=match i with
 | 0=> some ⟨b0,0,none⟩
 | 1=> some ⟨b1,0,none⟩
 | _=> some ⟨b2,0,none⟩
structure LinesAt(H:View)(bl b0 b1 b2:Nat):Prop where
 h:∃f gt gz,H bl=some (f,.cells ⟨[strV [97,110,110],strV [49,50],.slice (some ⟨b0,0,none⟩) 1 1,strV [98,111,98],strV [49,51],.slice (some ⟨b1,0,none⟩) 2 2,strV [101,118,101],strV [50],.slice (some ⟨b2,0,none⟩) 1 1]⟩ gt gz)
 h0:∃f gt gz,H b0=some (f,.cells ⟨[.int .i64 1]⟩ gt gz)
 h1:∃f gt gz,H b1=some (f,.cells ⟨[.int .i64 2,.int .i64 1]⟩ gt gz)
 h2:∃f gt gz,H b2=some (f,.cells ⟨[.int .i64 0]⟩ gt gz)
theorem LinesAt.le {H H':View}{bl b0 b1 b2:Nat}(h:LinesAt H bl b0 b1 b2)(k:H.le H'):LinesAt H' bl b0 b1 b2:=
 ⟨h.h.imp fun _ ⟨gt,gz,e⟩=> ⟨gt,gz,k _ _ e⟩,h.h0.imp fun _ ⟨gt,gz,e⟩=> ⟨gt,gz,k _ _ e⟩,h.h1.imp fun _ ⟨gt,gz,e⟩=> ⟨gt,gz,k _ _ e⟩,h.h2.imp fun _ ⟨gt,gz,e⟩=> ⟨gt,gz,k _ _ e⟩⟩
theorem src_of_cells {H:View}{sz m c b:Nat}{f:Bool}{cs:List Value}{e:TypeId}{fz:Nat×Nat}(hb:H b=some (f,.cells ⟨cs⟩ e fz))(h:cs.length=m*sz):SrcAt H sz (.slice (some ⟨b,0,none⟩) m c) m cs:=
 ⟨⟨_,_,rfl⟩,h,.inr ⟨b,0,c,f,cs,e,fz,rfl,hb,by simp,by simp⟩⟩
theorem ex_book {H:View}{k:Bk}{bl b0 b1 b2 bt:Nat}(hl:LinesAt H bl b0 b1 b2)(hn:k.nl=3)(hname:k.name=exName)(hnum:k.num=exNum)(hnf:k.nf=exNf)(hfr:k.free=exFree){f:Bool}{gt:TypeId}{gz:Nat×Nat}(ht:H bt=some (f,.cells ⟨flatR k.nt (trainL k)⟩ gt gz)):
   BookAt H k (some ⟨bl,0,none⟩) 3 (some ⟨bt,0,none⟩) k.nt (exF b0 b1 b2) exNf:=by
 obtain⟨⟨f1,t1,z1,g1⟩,⟨f2,t2,z2,g2⟩,⟨f3,t3,z3,g3⟩,⟨f4,t4,z4,g4⟩⟩:=hl;refine⟨by omega,Nat.le_refl _,?_,src_of_cells ht (flatR_len (f:=trainL k) (sz:=4) (fun _=> rfl) k.nt),fun i hi=> by rw[hnf];exact Nat.le_refl _,fun i hi=> ?_⟩
 · rw[hn];have e:flatR 3 (rowL k (exF b0 b1 b2) exNf)= [strV [97,110,110],strV [49,50],.slice (some ⟨b0,0,none⟩) 1 1,strV [98,111,98],strV [49,51],.slice (some ⟨b1,0,none⟩) 2 2,strV [101,118,101],strV [50],.slice (some ⟨b2,0,none⟩) 1 1]:=by
     unfold rowL;rw[hname,hnum,hnf];rfl
   rw[e];exact src_of_cells g1 rfl
 · rw[hn] at hi;rw[hnf,hfr];rcases(by omega:i=0∨i=1∨i=2) with rfl|rfl|rfl
   · exact src_of_cells g2 rfl
   · exact src_of_cells g3 rfl
   · exact src_of_cells g4 rfl
section
variable(M:Md prog)(H:View)
theorem lines_ex:CallT M 149 #[] H (fun v H'=> H.le H'∧∃bl b0 b1 b2,v=.slice (some ⟨bl,0,none⟩) 3 3∧LinesAt H' bl b0 b1 b2):=by
 refine .en func149 ntmps149 fun St c cs hK=> ?_;refine U6 ?_;refine .e (.bs (zz:=fun b0=> ?_));refine U ?_;refine .e (.bs (zz:=fun b1=> ?_));refine U ?_;refine .e (.bs (zz:=fun b2=> ?_));refine U ?_;refine .e (.bs (zz:=fun bl=> ?_));refine U2 ?_;refine .rt hK func149 results149 [_] ?_;exact fun H' hs=> ⟨hs.base,bl,b0,b1,b2,rfl,⟨_,_,_,hs.get (i:=0) rfl⟩,⟨_,_,_,hs.get (i:=3) rfl⟩,⟨_,_,_,hs.get (i:=2) rfl⟩,⟨_,_,_,hs.get (i:=1) rfl⟩⟩
theorem Example_c:CallT M 77 #[] H (fun v H'=> H.le H'∧∃A lc B tc F fc,v=bkD.val A lc B tc∧BookAt H' bkD A lc B tc F fc):=by
 refine .en func77 ntmps77 fun St c cs hK=> ?_;refine U2 ?_;refine .al fun b0=> ?_;refine U3 ?_;refine To.callF rfl rfl rfl rfl rfl rfl (by decide) (FnT.h (lines_ex M H)) (fun v H₁ hv=> ?_);obtain⟨hle,bl,c0,c1,c2,rfl,hl⟩:=hv;refine .c rfl rfl rfl rfl (fun H hs=> .h (train_c M H 1 8)) ?_;refine .c rfl rfl rfl rfl (fun H hs=> .h (to_c M H 2 3)) ?_;refine .c rfl rfl rfl rfl (fun H hs=> .h (to_c M H 6 6)) ?_;refine U ?_;refine .e (.bs (zz:=fun bt=> ?_));refine U3 ?_;refine .rt hK func77 results77 [_] ?_;exact fun H' hs=> ⟨View.le_trans hle hs.base,_,_,some ⟨bt,0,none⟩,_,_,_,rfl,ex_book (hl.le hs.base) rfl rfl rfl rfl rfl (hs.get (i:=0) rfl)⟩
theorem joined_c:CallT M 78 #[] H (fun v H'=> H.le H'∧∃A lc B tc F fc,v=bkE.val A lc B tc∧BookAt H' bkE A lc B tc F fc):=by
 refine .en func78 ntmps78 fun St c cs hK=> ?_;refine U2 ?_;refine .al fun b0=> ?_;refine U3 ?_;refine To.callF rfl rfl rfl rfl rfl rfl (by decide) (FnT.h (lines_ex M H)) (fun v H₁ hv=> ?_);obtain⟨hle,bl,c0,c1,c2,rfl,hl⟩:=hv;refine .c rfl rfl rfl rfl (fun H hs=> .h (to_c M H 1 1)) ?_;refine .c rfl rfl rfl rfl (fun H hs=> .h (to_c M H 3 6)) ?_;refine U ?_;refine .c rfl rfl rfl rfl (fun H hs=> .h (train_c M H 1 9)) ?_;refine .c rfl rfl rfl rfl (fun H hs=> .h (train_c M H 2 9)) ?_;refine .e (.bs (zz:=fun bt=> ?_));refine U3 ?_;refine .rt hK func78 results78 [_] ?_;exact fun H' hs=> ⟨View.le_trans hle hs.base,_,_,some ⟨bt,0,none⟩,_,_,_,rfl,ex_book (hl.le hs.base) rfl rfl rfl rfl rfl (hs.get (i:=0) rfl)⟩
end
theorem bkD_al:bkD.alarm=0:=by decide +kernel
theorem bkE_al:bkE.alarm=0:=by decide +kernel
theorem bkO_al:bkO.alarm=0:=by decide +kernel
theorem ex_small {k:Bk}(hn:k.nl=3)(ht:k.nt≤1000)(hnum:k.num=exNum)(hnf:k.nf=exNf):k.small:=⟨by omega,ht,fun i hi=> by
 rw[hn] at hi;rw[hnum,hnf];rcases(by omega:i=0∨i=1∨i=2) with rfl|rfl|rfl <;> decide⟩
set_option maxHeartbeats 8000000
def quadV(x:Int×Int×Int×Int):List Value:= [.int .i64 x.1,.int .i64 x.2.1,.int .i64 x.2.2.1,.int .i64 x.2.2.2]
def quadsV(l:List (Int×Int×Int×Int)):List Value:=l.flatMap quadV
section
variable(M:Md prog)(H:View)
end
end Go.Proofs.YtdnfdeplcjaonaaGreatDoor
namespace Go.Proofs.YtdnfdeplcjaonaaGreatDoor
open Go.RL Go.Proofs.Tryz Go.Conc
set_option maxRecDepth 10000
theorem e163:Ent prog 163 (Extern.Race.marked .releaseMerge):=⟨Tryz.f163,func163,by kernel_rfl,by kernel_rfl,by kernel_rfl,by kernel_rfl⟩
theorem e164:Ent prog 164 disE:=⟨Tryz.f164,func164,by kernel_rfl,by kernel_rfl,by kernel_rfl,by kernel_rfl⟩
theorem e165:Ent prog 165 enE:=⟨Tryz.f165,func165,by kernel_rfl,by kernel_rfl,by kernel_rfl,by kernel_rfl⟩
theorem e166:Ent prog 166 (fun _=> pure (.bool false)):=⟨Tryz.f166,func166,by kernel_rfl,by kernel_rfl,by kernel_rfl,by kernel_rfl⟩
theorem e171:Ent prog 171 (Extern.Race.marked .read):=⟨Tryz.f171,func171,by kernel_rfl,by kernel_rfl,by kernel_rfl,by kernel_rfl⟩
theorem e175:Ent prog 175 Extern.Sync.semrelease:=⟨Tryz.f175,func175,by kernel_rfl,by kernel_rfl,by kernel_rfl,by kernel_rfl⟩
theorem e176:Ent prog 176 (Extern.Race.marked .acquire):=⟨Tryz.f176,func176,by kernel_rfl,by kernel_rfl,by kernel_rfl,by kernel_rfl⟩
theorem e179:Ent prog 179 (Extern.Race.marked .write):=⟨Tryz.f179,func179,by kernel_rfl,by kernel_rfl,by kernel_rfl,by kernel_rfl⟩
theorem e180:Ent prog 180 Extern.Sync.semacquire:=⟨Tryz.f180,func180,by kernel_rfl,by kernel_rfl,by kernel_rfl,by kernel_rfl⟩
theorem e210:Ent prog 210 (Extern.Atomic.update (Op.intArith .add) .u64 true):=⟨Tryz.f210,func210,by kernel_rfl,by kernel_rfl,by kernel_rfl,by kernel_rfl⟩
theorem e211:Ent prog 211 (Extern.Atomic.loadT (.int .u64)):=⟨Tryz.f211,func211,by kernel_rfl,by kernel_rfl,by kernel_rfl,by kernel_rfl⟩
theorem e212:Ent prog 212 Extern.Atomic.storeT:=⟨Tryz.f212,func212,by kernel_rfl,by kernel_rfl,by kernel_rfl,by kernel_rfl⟩
theorem e213:Ent prog 213 (Extern.Atomic.casT (.int .u64)):=⟨Tryz.f213,func213,by kernel_rfl,by kernel_rfl,by kernel_rfl,by kernel_rfl⟩
theorem fo_156_1:fldOff prog 156 1=some 0:=by kernel_rfl
theorem fo_156_2:fldOff prog 156 2=some 1:=by kernel_rfl
theorem fo_153_2:fldOff prog 153 2=some 0:=by kernel_rfl
theorem un_201:prog.underlying 201=some (.pointer 156):=by kernel_rfl
theorem un_203:prog.underlying 203=some .unsafePointer:=by kernel_rfl
theorem un_208:prog.underlying 208=some (.pointer 154):=by kernel_rfl
theorem un_3:prog.underlying 3=some (.int .i64):=by kernel_rfl
theorem un_21:prog.underlying 21=some (.int .i32):=by kernel_rfl
theorem un_154:prog.underlying 154=some (.int .u32):=by kernel_rfl
theorem un_151:prog.underlying 151=some (.int .u64):=by kernel_rfl
theorem sz_156:(prog.info? 156).map (·.size)=some (1+1):=by kernel_rfl
theorem sz_154:(prog.info? 154).map (·.size)=some (0+1):=by kernel_rfl
end Go.Proofs.YtdnfdeplcjaonaaGreatDoor
namespace Go.Proofs.YtdnfdeplcjaonaaGreatDoor
open Go.RL Go.Proofs.Tryz Go.Conc Go.ConcN Go.RL.Au
open Go.ConcR (stA smA)
open Go.ConcM (OsLater)
set_option maxRecDepth 10000
section
variable {main:Bool}{sh:Shp}{J:Goroutine→Prop}{K:Value→(Goroutine→Prop)→Prop}{blk off:Nat}
def KC(main:Bool)(K:Value→(Goroutine→Prop)→Prop):Prop:=∀v J',K v J'→∃sh',Cl prog main sh' J'
theorem add64 {d:Int}(hc:Cl prog main sh J)(hk:KC main K)(h:AtC J 210 [.pointer (some ⟨blk,off,none⟩),.int .u64 d] K):AtC J 170 [.pointer (some ⟨blk,off,none⟩),.int .u64 d] K:=by
 refine InC.at (by exact hc) ca170 (InC.enter (vs:= [.pointer (some ⟨blk,off,none⟩),.int .u64 d]) func170 rfl ntmps170 (Nat.le_of_ble_eq_true rfl) fun c cs hK=> ?_);refine .sq (.rg rfl rfl ?_);refine .g ?_;refine .dn (.sq (.rg rfl rfl ?_));refine .m ?_;refine .x .nk ?_;refine .x (.fa (zz:=fo_153_2)) ?_;refine .m ?_;refine So.callD rfl rfl rfl nofun rfl (.mk' rfl) rfl (h) ?_;intro v J' hv;obtain⟨sh',hc⟩:=hk v J' hv;refine .g ?_;refine .dn ?_;refine Sc.retCode (by exact hc) rfl (Sb.leave (by exact hc) func170 rfl (by exact .inr ⟨_,results170,rfl⟩) ?_);exact hK v J' hv
theorem load64(hc:Cl prog main sh J)(hk:KC main K)(h:AtC J 211 [.pointer (some ⟨blk,off,none⟩)] K):AtC J 172 [.pointer (some ⟨blk,off,none⟩)] K:=by
 refine InC.at (by exact hc) ca172 (InC.enter (vs:= [.pointer (some ⟨blk,off,none⟩)]) func172 rfl ntmps172 (Nat.le_of_ble_eq_true rfl) fun c cs hK=> ?_);refine .sq (.rg rfl rfl ?_);refine .g ?_;refine .dn (.sq (.rg rfl rfl ?_));refine .m ?_;refine .x .nk ?_;refine .x (.fa (zz:=fo_153_2)) ?_;refine So.callD rfl rfl rfl nofun rfl (.mk' rfl) rfl (h) ?_;intro v J' hv;obtain⟨sh',hc⟩:=hk v J' hv;refine .g ?_;refine .dn ?_;refine Sc.retCode (by exact hc) rfl (Sb.leave (by exact hc) func172 rfl (by exact .inr ⟨_,results172,rfl⟩) ?_);exact hK v J' hv
theorem store64 {d:Int}(hc:Cl prog main sh J)(hk:KC main K)(hu:∀v J',K v J'→v=.tuple #[])(h:AtC J 212 [.pointer (some ⟨blk,off,none⟩),.int .u64 d] K):AtC J 173 [.pointer (some ⟨blk,off,none⟩),.int .u64 d] K:=by
 refine InC.at (by exact hc) ca173 (InC.enter (vs:= [.pointer (some ⟨blk,off,none⟩),.int .u64 d]) func173 rfl ntmps173 (Nat.le_of_ble_eq_true rfl) fun c cs hK=> ?_);refine .rg rfl rfl ?_;refine .m ?_;refine .x .nk ?_;refine .x (.fa (zz:=fo_153_2)) ?_;refine .m ?_;refine So.callD rfl rfl rfl nofun rfl (.mk' rfl) rfl (h) ?_;intro v J' hv;obtain⟨sh',hc⟩:=hk v J' hv;refine .dn ?_;refine Sc.over (by exact hc) rfl (Sb.leave (by exact hc) func173 rfl (by exact .inl ⟨results173,rfl⟩) ?_);exact hu v J' hv▸hK v J' hv
theorem cas64 {d e:Int}(hc:Cl prog main sh J)(hk:KC main K)(h:AtC J 213 [.pointer (some ⟨blk,off,none⟩),.int .u64 d,.int .u64 e] K):AtC J 178 [.pointer (some ⟨blk,off,none⟩),.int .u64 d,.int .u64 e] K:=by
 refine InC.at (by exact hc) ca178 (InC.enter (vs:= [.pointer (some ⟨blk,off,none⟩),.int .u64 d,.int .u64 e]) func178 rfl ntmps178 (Nat.le_of_ble_eq_true rfl) fun c cs hK=> ?_);refine .sq (.rg rfl rfl ?_);refine .g ?_;refine .dn (.sq (.rg rfl rfl ?_));refine .m ?_;refine .x .nk ?_;refine .x (.fa (zz:=fo_153_2)) ?_;refine .m ?_;refine .m ?_;refine So.callD rfl rfl rfl nofun rfl (.mk' rfl) rfl (h) ?_;intro v J' hv;obtain⟨sh',hc⟩:=hk v J' hv;refine .g ?_;refine .dn ?_;refine Sc.retCode (by exact hc) rfl (Sb.leave (by exact hc) func178 rfl (by exact .inr ⟨_,results178,rfl⟩) ?_);exact hK v J' hv
end
set_option maxHeartbeats 1000000
theorem g64_hi:∀a:Nat,a<8→∀b:Nat,b<2→bitI .and .u64 ((a*4294967296+b:Nat):Int) 2147483648=0:=by decide +kernel
theorem g64_lo:∀a:Nat,a<8→∀b:Nat,b<2→bitI .and .u64 ((a*4294967296+b:Nat):Int) 2147483647=(b:Int):=by decide +kernel
theorem g64_sh:∀a:Nat,a<8→∀b:Nat,b<2→((a*4294967296+b:Nat):Int).fdiv (2 ^ (min (32:Int).toNat IntKind.u64.bits))=(a:Int):=by decide +kernel
theorem w64_m1:IntKind.u64.wrap (-1)=18446744073709551615:=by decide +kernel
theorem sh64_m1:shiftV .shl .u64 18446744073709551615 32=some (.int .u64 18446744069414584320):=by
 show some (Value.int .u64 (IntKind.u64.wrap (18446744073709551615*2 ^ (min (32:Int).toNat IntKind.u64.bits))))=_;rw[show IntKind.u64.wrap (18446744073709551615*2 ^ (min (32:Int).toNat IntKind.u64.bits))=18446744069414584320 by decide +kernel]
theorem w64_1:IntKind.u64.wrap 1=1:=by decide +kernel
theorem sh64_1:shiftV .shl .u64 1 32=some (.int .u64 4294967296):=by
 show some (Value.int .u64 (IntKind.u64.wrap (1*2 ^ (min (32:Int).toNat IntKind.u64.bits))))=_;rw[show IntKind.u64.wrap (1*2 ^ (min (32:Int).toNat IntKind.u64.bits))=4294967296 by decide +kernel]
theorem w32_m1:IntKind.i32.wrap (-1)= -1:=by decide +kernel
theorem w32_s:∀a:Nat,a<8→IntKind.i32.wrap (a:Int)=(a:Int):=by decide +kernel
theorem wu32_s:∀a:Nat,a<8→IntKind.u32.wrap (a:Int)=(a:Int):=by decide +kernel
end Go.Proofs.YtdnfdeplcjaonaaGreatDoor
