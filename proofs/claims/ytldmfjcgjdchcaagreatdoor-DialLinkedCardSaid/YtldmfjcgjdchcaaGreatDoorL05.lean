/-
 Texts of the proofs over baudot/dial.
-/
import Derived.Test.YtldmfjcgjdchcaaGreatDoorL04
namespace Go.Proofs.YtldmfjcgjdchcaaGreatDoor
open Go.RL Go.Proofs.Tryz
set_option maxRecDepth 10000
set_option maxHeartbeats 16000000
theorem none_le {H H':View}(h:H.le H'){b:Nat}(hb:H' b=none):H b=none:=by
 cases e:H b with
 | none=> rfl
 | some x=> rw[h _ _ e] at hb;cases hb
def Bk.IC(k:Bk)(z:Int):Int:=if z∈k.ZS then if k.ZS.length=1 then 1 else 0 else 2
def GN(f:Nat->Int)(n:Nat):List Value:=(List.range n).map fun i=> .int .i64 (f i)
theorem oO(f:Nat->Int)(n:Nat):GN f (n+1)=GN f n++[.int .i64 (f n)]:=by
 unfold GN;rw[List.range_succ,List.map_append];rfl
theorem w9(f:Nat->Int)(n:Nat):(GN f n).length=n:=by simp[GN]
def W6(g:Gl 110 1)(c a:Int):Value:=.tuple ⟨[g.val,.int .i64 c,.int .i64 a]⟩
def Bk.FF(k:Bk)(line:Nat):Nat->Int
 | 0=> k.IC (line:Nat)
 | i+1=> ZH (k.FF line i) (if k.free line i=0 then 0 else if k.free line i=1 then 2 else 1)
def Bk.TF(k:Bk)(line i:Nat):Int:=ZH (k.FF line i) (k.free line i)
section
variable(M:Md prog)(H:View)
theorem iM(k:Bk)(z:Int)(m:Nat)(es:Array MapEntry)(cl:Nat)(f:Bool)(hm:H m=some (f,.map es cl))(ZB:NB es cl (mI k.yX)):
  bA M 123 #[.map (some m),.int .i64 z] H (fun v H'=> H.le H'/\v=.int .i64 (k.IC z)):=by
 refine x9 M H k.yX z m es cl f hm ZB _ ?_;have h1:=Bk.uP ZB;have h2:=k.RU z;unfold Bk.IC;by_cases c1:z∈k.ZS
 ·rw[if_pos c1];by_cases c2:k.ZS.length=1
  ·rw[if_pos c2];exact .inr (.inl ⟨h2.1 c1,oM,rfl⟩)
  ·rw[if_neg c2];exact .inr (.inr ⟨h2.1 c1,oM,rfl⟩)
 ·rw[if_neg c1];exact .inl ⟨fun h=> c1 (h2.2 h),rfl⟩
theorem rQ(k:Bk)(A:Option Addr)(lc:Nat)(B:Option Addr)(tc:Nat)(hk:LF H k A lc B tc)(hn:k.small)(hG:aE H)(ha:k.WA=0):
  bA M 50 #[k.val A lc B tc] H (fun v H'=> H.le H'/\∃g:Gl 110 1,v=W6 g (k.IC (-1)) 0/\(g.n=k.nl/\g.l=GN (fun i=> k.IC (i:Nat)) k.nl)/\∀x∈g.bl,H' x.1=some x.2/\H x.1=none):=by
 obtain⟨_,RQ,aN,ZB⟩:=Bk.valid ha;have lA:=fun(H':View) (h':H.le H')=> vC M H' k A lc B tc (hk.le h') hn (IA hG h') ha;refine .en func50 ntmps50 fun St c cs hK=> ?_;refine U2 ?_;refine .bo fun b1=> ?_;refine U7 ?_;refine .cl (fun H hs=> lA H hs.base) ?_;refine U3 ?_;refine .al fun b5=> ?_;refine QE ?_;refine To.vB rfl rfl rfl rfl rfl rfl dE (uB.h (CJ M H k A lc B tc hk.rows hn.nl hk.ZD ZB aN)) (fun v H₂ hv=> ?_);obtain⟨hle,m,es,cl,rfl,⟨fm,q3⟩,q4⟩:=hv;refine PE ?_;refine Tc.db (Tc.tA (σ:= { s:Nat×Gl 110 1//s.1<=k.nl/\s.2.n=s.1/\s.2.l=GN (fun i=> k.IC (i:Nat)) s.1 })
  (fun s=> ([(1,.pointer (some ⟨b1,0,none⟩)),(2,s.1.2.val),(5,.pointer (some ⟨b5,0,none⟩)),(6,.map (some m)),(20,.int .i64 (k.nl:Nat)),(21,.int .i64 (s.1.1:Nat))],[(b5,true,.cells ⟨(k.val A lc B tc).cells.toList⟩ 166 (0,0)),(b1,true,.cells ⟨(k.val A lc B tc).cells.toList⟩ 45 (0,0))]++s.1.2.bl)) (fun s=> k.nl-s.1.1) ?_ ⟨(0,Gl.nil 110 1),Nat.zero_le _,rfl,rfl⟩)
 rintro⟨⟨j,g⟩,p1,p2,p3⟩ ih;simp only at p1 p2 p3;show Tc M St _ _ _ _ [(1,.pointer (some ⟨b1,0,none⟩)),(2,g.val),(5,.pointer (some ⟨b5,0,none⟩)),(6,.map (some m)),(20,.int .i64 (k.nl:Nat)),(21,.int .i64 (j:Nat))] ([(b5,true,.cells ⟨(k.val A lc B tc).cells.toList⟩ 166 (0,0)),(b1,true,.cells ⟨(k.val A lc B tc).cells.toList⟩ 45 (0,0))]++g.bl) _ _;by_cases c1:j=k.nl
 ·subst c1;refine PE ?_;refine .cl (fun H hs=> iM M H k (-1) m es cl fm (hs.base _ _ q3) q4) ?_;refine U4 ?_;refine .rt hK func50 results50 [_,_,_] ?_;exact fun H' hs=> ⟨View.le_trans hle hs.base,g,rfl,⟨p2,p3⟩,fun x hx=> ⟨hs.at_ x (by simp[hx]),none_le hle (hs.out x (by simp[hx]))⟩⟩
 ·have c2:j<k.nl:=by omega
  refine QT ?_;refine .cl (fun H hs=> iM M H k (j:Nat) m es cl fm (hs.base _ _ q3) q4) ?_;refine .e (.bs (zz:=fun bs=> ?_));refine .e (Or.append (E:=en) 3 rfl rfl rfl rfl rfl rfl rfl rfl rfl rfl rfl rfl rfl rfl rfl (fun H hs=> OA.of (hs.get (i:=0) rfl) (Nat.le_of_ble_eq_true rfl)) rfl oM rfl dE (fun g' TW TP=> ?_));refine U7 ?_;exact Tc.db (ih ⟨(j+1,g'),by simp only;omega,by simp only;omega,by simp only;rw[TP,p3,oO];rfl⟩ (by simp only;omega))
end
theorem XM {f:Nat->Int}:∀n,mC f n=0->∀i,i<n->f i=0
 | 0,_,i,hi=> by omega
 | n + 1,h,i,hi=> by
  rw[mC] at h;split at h
  ·rename_i h0
   by_cases e:i=n
   ·subst e;exact h
   ·exact XM n h0 i oM
  ·rename_i h0
   exact(h0 h).elim
theorem Bk.IS {k:Bk}(h:k.WA=0){i:Nat}(hi:i<k.nl):MJ (k.name i)=true/\k.again i=false/\isNum (k.num i)=true/\(k.pre i).clash (k.num i)=false/\(1<=k.nf i/\k.nf i<=4)/\∀j,j<k.nf i->0<=k.free i j/\k.free i j<=2:=by
 obtain⟨_,h2,_⟩:=Bk.fW h;unfold Bk.LD at h2;split at h2
 ·cases h2
 ·have h3 :=XM _ h2 i hi;unfold Bk.VB at h3;split at h3
  ·cases h3
  ·rename_i q0
   split at h3
   ·cases h3
   ·rename_i q1
    split at h3
    ·cases h3
    ·rename_i q2
     split at h3
     ·cases h3
     ·rename_i q3
      split at h3
      ·cases h3
      ·rename_i q4
       split at h3
       ·cases h3
       ·rename_i q5
        have q4':=of_decide_eq_true (Bool.not_eq_false _▸q4:decide _=true);refine⟨by simpa using q0,by simpa using q1,by simpa using q2,by simpa using q3,oM,fun j hj=> ?_⟩;unfold Bk.CH at q5;have h4:jA (fun j=> !ND (k.free i j)) (k.nf i)=none:=by
         cases hz:jA (fun j=> !ND (k.free i j)) (k.nf i) with
         | none=> rfl
         | some y=> rw[hz] at q5;exact(q5 rfl).elim
        have h5:=(kB _).1 h4 j hj;unfold ND at h5;simpa using h5
theorem mG {sz off d:Nat}{gs c:List Value}(h:gD true sz gs off=some (.agg ⟨c⟩))(hd:d<sz):gD false 1 gs (off+d)=c[d]? :=by
 obtain⟨h1,h2⟩:=DS h;simp only[Value.agg.injEq,Array.mk.injEq] at h2;show gs[_]? =_;rw[h2,List.getElem?_take,if_pos hd,List.getElem?_drop]
def tkL(k:Bk)(line j:Nat):List Value:=(List.range 4).map fun i=> .int .i64 (if i<j then k.TF line i else 0)
theorem aDJ(k:Bk)(line j:Nat)(hj:j<4):HF (tkL k line j) (0+((j:Nat):Int).toNat*1) [.int .i64 (k.TF line j)]=tkL k line (j+1):=by
 rcases(by omega:j=0\/j=1\/j=2\/j=3) with rfl|rfl|rfl|rfl <;> rfl
theorem aAG(k:Bk)(line n:Nat)(hn:n<=4){H:View}{b:Nat}{f:Bool}{gt:TypeId}{gz:Nat×Nat}(hb:H b=some (f,.cells ⟨tkL k line n⟩ gt gz)):OA H 1 (.slice (some ⟨b,0,none⟩) n 4) n (GN (k.TF line) n):=by
 have h:=OA.of (sz:=1) (m:=n) (c:=4) (off:=0) hb (by simp[tkL];omega);have e:((tkL k line n).drop 0).take (n*1)=GN (k.TF line) n:=by
  rcases(by omega:n=0\/n=1\/n=2\/n=3\/n=4) with rfl|rfl|rfl|rfl|rfl <;> rfl
 rw[e] at h;exact h
theorem rW(f:Nat->Int)(n:Nat):(GN f n).all single=true:=by
 rw[List.all_eq_true];intro x hx;obtain⟨i,_,rfl⟩:=List.mem_map.1 hx;rfl
section
variable(M:Md prog)(H:View)
theorem Q8(k:Bk)(A:Option Addr)(lc:Nat)(B:Option Addr)(tc:Nat)(hk:LF H k A lc B tc)(hn:k.small)(hG:aE H)(ha:k.WA=0)(line:Nat)(hl:line<k.nl):
  bA M 54 #[k.val A lc B tc,.int .i64 (line:Nat)] H (fun v H'=> H.le H'/\∃g:Gl 110 1,v=W6 g (k.FF line (k.nf line)) 0/\(g.n=k.nf line/\g.l=GN (k.TF line) (k.nf line))/\∀x∈g.bl,H' x.1=some x.2/\H x.1=none):=by
 obtain⟨_,RQ,aN,ZB⟩:=Bk.valid ha;obtain⟨_,_,_,_,VW,j5⟩:=Bk.IS ha hl;have hb:=fun(H':View)=> zA M H' ((line:Nat):Int) 0 ((k.nl:Int)-1) true (decide_eq_true oM);have lA:=fun(H':View) (h':H.le H')=> vC M H' k A lc B tc (hk.le h') hn (IA hG h') ha;have vU:=hk.rows;obtain⟨_,h0|⟨ab,ao,fa,gs,gt,gz,rfl,OQ,ZW⟩⟩:=vU
 ·omega
 obtain⟨F,fc,f1,hfc,hF⟩:=ZW line hl;have f2:gD false 1 gs (ao+((line:Nat):Int).toNat*3+2)=some (.slice F (k.nf line) fc):=mG f1 dE;obtain h0|⟨fb,fo,ff,fs,ft,fz,rfl,hfb,hfl⟩:=hF
 ·omega
 obtain⟨_,fg,gt1,gz1,hg1⟩:=hG;refine .en func54 ntmps54 fun St c cs hK=> ?_;refine U2 ?_;refine .bo fun b2=> ?_;refine U5 ?_;refine Tc.dr [12] [] mixed rfl ?_;refine V6 0 ?_;refine .z 6 rfl (qA.tk fun H hs=> hb H) ?_;refine .z 7 rfl (qA.tk fun H hs=> lA H hs.base) ?_;refine V2 8 ?_;refine .nw 10 ?_;refine .ea 11 rfl (.al (zz:=fun b7=> ⟨S2.mk sL (.inr sL),?_⟩));refine .e 12 0 ?_;refine .nw 13 ?_;refine .dn ?_;refine lD ?_;refine .al fun b8=> ?_;refine U4 ?_;refine To.vB rfl rfl rfl rfl rfl rfl dE (uB.h (CJ M H k (some ⟨ab,ao,none⟩) lc B tc hk.rows hn.nl hk.ZD ZB aN)) (fun v H₂ hv=> ?_);obtain⟨hle,m,es,cl,rfl,⟨fm,q3⟩,q4⟩:=hv;have aFW:=hle _ _ OQ;have aGY:=hle _ _ hfb;have nM:=hle _ _ hg1;refine U ?_;refine .cl (fun H hs=> iM M H k (line:Nat) m es cl fm (hs.base _ _ q3) q4) ?_;refine MR ?_;refine Tc.db (Tc.tA (σ:= { j:Nat//j<=k.nf line }) (fun j=> ([(2,.pointer (some ⟨b2,0,none⟩)),(4,.slice none 0 0),(5,.int .i64 (k.FF line j.1)),(7,.pointer (some ⟨b7,0,none⟩)),(8,.pointer (some ⟨b8,0,none⟩)),(9,.slice (some ⟨fb,fo,none⟩) (k.nf line) fc),(36,.slice (some ⟨fb,fo,none⟩) (k.nf line) fc),(37,.int .i64 (k.nf line:Nat)),(38,.int .i64 (j.1:Nat))],
  [(b8,true,.cells ⟨tkL k line j.1⟩ 240 (0,0)),(b7,true,.cells ⟨(k.val (some ⟨ab,ao,none⟩) lc B tc).cells.toList⟩ 166 (0,0)),(b2,true,.cells ⟨(k.val (some ⟨ab,ao,none⟩) lc B tc).cells.toList⟩ 45 (0,0))])) (fun j=> k.nf line-j.1) ?_ ⟨0,Nat.zero_le _⟩)
 rintro⟨j,hj⟩ ih;show Tc M St _ _ _ _ [(2,.pointer (some ⟨b2,0,none⟩)),(4,.slice none 0 0),(5,.int .i64 (k.FF line j)),(7,.pointer (some ⟨b7,0,none⟩)),(8,.pointer (some ⟨b8,0,none⟩)),(9,.slice (some ⟨fb,fo,none⟩) (k.nf line) fc),(36,.slice (some ⟨fb,fo,none⟩) (k.nf line) fc),(37,.int .i64 (k.nf line:Nat)),(38,.int .i64 (j:Nat))]
  [(b8,true,.cells ⟨tkL k line j⟩ 240 (0,0)),(b7,true,.cells ⟨(k.val (some ⟨ab,ao,none⟩) lc B tc).cells.toList⟩ 166 (0,0)),(b2,true,.cells ⟨(k.val (some ⟨ab,ao,none⟩) lc B tc).cells.toList⟩ 45 (0,0))] _ _
 by_cases c1:j=k.nf line
 ·subst c1;refine NF ?_;refine .x (qA.DX (E:=en) (off':=0) rfl rfl rfl rfl rfl rfl rfl rfl oM oM oM (by rw[if_neg dE];rfl)) ?_;refine .e (Or.append (E:=en) (g:=Gl.nil 110 1) (m:=k.nf line) (new:=GN (k.TF line) (k.nf line)) (yv:=.slice (some ⟨b8,0,none⟩) (k.nf line) 4) 3 rfl rfl rfl rfl rfl rfl rfl rfl rfl rfl rfl rfl rfl rfl rfl (fun H hs=> aAG k line (k.nf line) VW.2 (hs.get (i:=0) rfl)) (rW _ _) (by show 0+k.nf line<=_;omega) rfl dE (fun g' TW TP=> ?_));refine U5 ?_;refine .rt hK func54 results54 [_,_,_] ?_;exact fun H' hs=> ⟨View.le_trans hle hs.base,g',rfl,⟨by rw[TW];exact Nat.zero_add _,by rw[TP];rfl⟩,fun x hx=> ⟨hs.at_ x (by simp[hx]),none_le hle (hs.out x (by simp[hx]))⟩⟩
 ·have c2:j<k.nf line:=by omega
  have f3:=hfl j c2;have hfj:=j5 j c2;obtain⟨nz,hnz⟩:∃z,(if k.free line j=0 then 0 else if k.free line j=1 then 2 else 1:Int)=z:=⟨_,rfl⟩
  have f4:gD false 1 [Value.int .i64 0,.int .i64 2,.int .i64 1] (0+(k.free line j).toNat*1)=some (.int .i64 nz):=by
   rw[<-hnz];rcases(by omega:k.free line j=0\/k.free line j=1\/k.free line j=2) with h|h|h <;> rw[h] <;> rfl
  have f5:Nat.ble (0+((j:Nat):Int).toNat*1+1) (tkL k line j).length=true:=by
   refine Nat.ble_eq_true_of_le ?_;rw[Int.toNat_natCast];simp[tkL]
   omega
  have f6:=aDJ k line j oM;have en1:k.FF line (j+1)=ZH (k.FF line j) nz:=by rw[Bk.FF,hnz]
  refine OK ?_;refine Tc.dr [10] [0] mixed rfl ?_;refine V3 0 ?_;refine .z 3 rfl (qA.tk fun H hs=> aAQ M H (k.FF line j) (k.free line j)) ?_;refine .nw 4 ?_;refine .nw 5 ?_;refine .nw 6 ?_;refine .nn 7 ?_;refine .z 8 rfl (qA.tk fun H hs=> aAQ M H (k.FF line j) nz) ?_;refine .nn 9 ?_;refine .e 10 0 ?_;refine .nw 11 ?_;refine .dn ?_;refine U5 ?_;refine Tc.rC (ih ⟨j+1,oM⟩ (by simp only;omega)) ?_ ?_
  ·simp only[en1];exact⟨rfl,rfl,rfl,rfl,rfl,rfl,rfl,rfl,rfl,trivial⟩
  ·exact sL
end
theorem dC.bk {H:View}{k:Bk}{A:Option Addr}{lc:Nat}{B:Option Addr}{tc:Nat}{F:Nat->Option Addr}{fc:Nat->Nat}(h:dC H k A lc B tc F fc):LF H k A lc B tc:=⟨h.Z6,h.HP⟩
def aAR(x:Value)(a:Int):Value:=.tuple ⟨[x,.int .i64 a]⟩
def B6(a:Int):Value:=aAR (bk0.val none 0 none 0) a
def imax(a b:Int):Int:=if a<b then b else a
def qL(a b:Int):Int:=if b<a then b else a
def Bk.E6(k:Bk)(t:Nat)(a b c' d:Int):Bool:=YA (imax (k.pf t) a) (qL (k.pt t) b) (imax (k.qf t) c') (qL (k.qt t) d)
def Bk.now(k:Bk)(t:Nat)(a b c' d:Int):Bk:=k.with t (imax (k.pf t) a) (qL (k.pt t) b) (imax (k.qf t) c') (qL (k.qt t) d)
section
variable(M:Md prog)(H:View)
theorem aBe(k:Bk)(A:Option Addr)(lc:Nat)(B:Option Addr)(tc:Nat)(hk:LF H k A lc B tc)(hn:k.small)(hG:aE H)(ha:k.WA=0)(t:Nat)(ht:t<k.nt)(a b c' d:Int)(hx:YA a b c' d=false):
  bA M 53 #[k.val A lc B tc,.int .i64 (t:Nat),UC a b c' d] H (fun v H'=> H.le H'/\v=B6 1):=by
 have aN:=hn.nt;have hb:=fun(H':View)=> zA M H' ((t:Nat):Int) 0 ((k.nt:Int)-1) true (decide_eq_true oM);refine .en func53 ntmps53 fun St c cs hK=> ?_;refine U2 ?_;refine .bo fun b3=> ?_;refine .bo fun b5=> ?_;refine .al fun b6=> ?_;refine U3 ?_;refine Tc.dr [12] [] mixed rfl ?_;refine V6 0 ?_;refine .z 6 rfl (qA.tk fun H hs=> hb H) ?_;refine .z 7 rfl (qA.tk fun H hs=> vC M H k A lc B tc (hk.le hs.base) hn (IA hG hs.base) ha) ?_;refine V2 8 ?_;refine .nw 10 ?_;refine .ea 11 rfl (.al (zz:=fun b8=> ⟨S2.mk sL (.inr sL),?_⟩));refine .e 12 0 ?_;refine .nw 13 ?_;refine .dn ?_;refine NF ?_;refine .cl (fun H hs=> JF (VE M H a b c' d) hx) ?_;refine lD ?_;refine .rt hK func53 results53 [_,_] ?_;exact okB
theorem j8(k:Bk)(A:Option Addr)(lc:Nat)(B:Option Addr)(tc:Nat)(hk:LF H k A lc B tc)(hn:k.small)(hG:aE H)(ha:k.WA=0)(t:Nat)(ht:t<k.nt)(a b c' d:Int)(hx:YA a b c' d=true)(hy:k.E6 t a b c' d=false):
  bA M 53 #[k.val A lc B tc,.int .i64 (t:Nat),UC a b c' d] H (fun v H'=> H.le H'/\v=B6 10):=by
 have aN:=hn.nt;have hb:=fun(H':View)=> zA M H' ((t:Nat):Int) 0 ((k.nt:Int)-1) true (decide_eq_true oM);have hT:=hk.ZD;obtain⟨_,h0|⟨tb,to,ft,gs,gt,gz,rfl,htb,hl⟩⟩:=hT
 ·omega
 have f1:=hl t ht;refine .en func53 ntmps53 fun St c cs hK=> ?_;refine U2 ?_;refine .bo fun b3=> ?_;refine .bo fun b5=> ?_;refine .al fun b6=> ?_;refine U3 ?_;refine Tc.dr [12] [] mixed rfl ?_;refine V6 0 ?_;refine .z 6 rfl (qA.tk fun H hs=> hb H) ?_;refine .z 7 rfl (qA.tk fun H hs=> vC M H k A lc (some ⟨tb,to,none⟩) tc (hk.le hs.base) hn (IA hG hs.base) ha) ?_;refine V2 8 ?_;refine .nw 10 ?_;refine .ea 11 rfl (.al (zz:=fun b8=> ⟨S2.mk sL (.inr sL),?_⟩));refine .e 12 0 ?_;refine .nw 13 ?_;refine .dn ?_;refine NF ?_;refine .cl (fun H hs=> JF (VE M H a b c' d) hx) ?_;refine CG ?_;refine .al fun b10=> ?_;refine U3 ?_;refine Tc.dr [12] [] mixed rfl ?_;refine V4 0 ?_;refine .z 4 rfl (qA.tk fun H hs=> RR M H (k.pf t) (k.pt t) a b (imax (k.pf t) a) (qL (k.pt t) b) rfl rfl) ?_;refine V4 5 ?_;refine .z 9 rfl (qA.tk fun H hs=> RR M H (k.qf t) (k.qt t) c' d (imax (k.qf t) c') (qL (k.qt t) d) rfl rfl) ?_;refine .nn 10 ?_;refine .ea 11 rfl (.al (zz:=fun b11=> ⟨S2.mk sL (.inr sL),?_⟩));refine .e 12 0 ?_;refine .dn ?_;refine U4 ?_;refine .cl (fun H hs=> JF (VE M H (imax (k.pf t) a) (qL (k.pt t) b) (imax (k.qf t) c') (qL (k.qt t) d)) hy) ?_;refine U9 ?_;refine .rt hK func53 results53 [_,_] ?_;exact okB
theorem F2(k:Bk)(A:Option Addr)(lc:Nat)(B:Option Addr)(tc:Nat)(F:Nat->Option Addr)(fc:Nat->Nat)(hB:dC H k A lc B tc F fc)(hn:k.small)(hG:aE H)(ha:k.WA=0)(t:Nat)(ht:t<k.nt)(a b c' d:Int)(hx:YA a b c' d=true)(hy:k.E6 t a b c' d=true):
  bA M 53 #[k.val A lc B tc,.int .i64 (t:Nat),UC a b c' d] H (fun v H'=> H.le H'/\∃A' lc' B' tc' F' fc',v=aAR ((k.now t a b c' d).val A' lc' B' tc') 0/\dC H' (k.now t a b c' d) A' lc' B' tc' F' fc'):=by
 have hk:=hB.bk;have aN:=hn.nt;have hb:=fun(H':View)=> zA M H' ((t:Nat):Int) 0 ((k.nt:Int)-1) true (decide_eq_true oM);have hT:=hk.ZD;obtain⟨_,h0|⟨tb,to,ft,gs,gt,gz,rfl,htb,hl⟩⟩:=hT
 ·omega
 have f1:=hl t ht;refine .en func53 ntmps53 fun St c cs hK=> ?_;refine U2 ?_;refine .bo fun b3=> ?_;refine .bo fun b5=> ?_;refine .al fun b6=> ?_;refine U3 ?_;refine Tc.dr [12] [] mixed rfl ?_;refine V6 0 ?_;refine .z 6 rfl (qA.tk fun H hs=> hb H) ?_;refine .z 7 rfl (qA.tk fun H hs=> vC M H k A lc (some ⟨tb,to,none⟩) tc (hk.le hs.base) hn (IA hG hs.base) ha) ?_;refine V2 8 ?_;refine .nw 10 ?_;refine .ea 11 rfl (.al (zz:=fun b8=> ⟨S2.mk sL (.inr sL),?_⟩));refine .e 12 0 ?_;refine .nw 13 ?_;refine .dn ?_;refine NF ?_;refine .cl (fun H hs=> JF (VE M H a b c' d) hx) ?_;refine CG ?_;refine .al fun b10=> ?_;refine U3 ?_;refine Tc.dr [12] [] mixed rfl ?_;refine V4 0 ?_;refine .z 4 rfl (qA.tk fun H hs=> RR M H (k.pf t) (k.pt t) a b (imax (k.pf t) a) (qL (k.pt t) b) rfl rfl) ?_;refine V4 5 ?_;refine .z 9 rfl (qA.tk fun H hs=> RR M H (k.qf t) (k.qt t) c' d (imax (k.qf t) c') (qL (k.qt t) d) rfl rfl) ?_;refine .nn 10 ?_;refine .ea 11 rfl (.al (zz:=fun b11=> ⟨S2.mk sL (.inr sL),?_⟩));refine .e 12 0 ?_;refine .dn ?_;refine U4 ?_;refine .cl (fun H hs=> JF (VE M H (imax (k.pf t) a) (qL (k.pt t) b) (imax (k.qf t) c') (qL (k.qt t) d)) hy) ?_;refine U9 ?_;refine To.vB rfl rfl rfl rfl rfl rfl dE (uB.h (Y7 M H k A lc (some ⟨tb,to,none⟩) tc F fc hB hn.nl hn.nt (fun i hi=> (hn.num i hi).2) t ht (imax (k.pf t) a) (qL (k.pt t) b) (imax (k.qf t) c') (qL (k.qt t) d))) (fun v H₅ hv=> ?_);obtain⟨aBQ,A',lc',B',tc',F',fc',rfl,hB'⟩:=hv;refine U4 ?_;refine .rt hK func53 results53 [_,_] ?_;exact fun H' hs=> ⟨View.le_trans aBQ hs.base,A',lc',B',tc',F',fc',rfl,hB'.le hs.base⟩
end
end Go.Proofs.YtldmfjcgjdchcaaGreatDoor
namespace Go.RL
open Go.Conc
def sB(s:List UInt8):List Value:=s.map fun b=> .int .u8 (b.toNat:Nat)
theorem yH(s:List UInt8):(sB s).length=s.length:=by simp[sB]
theorem kW(s t:List UInt8):sB (s++t)=sB s++sB t:=by simp[sB]
theorem aQ(s:List UInt8):(sB s).all single=true:=by
 rw[List.all_eq_true];intro x hx;obtain⟨b,_,rfl⟩:=List.mem_map.1 hx;rfl
section
variable {P:Program}{E:Env P}{M:Md P}{n:Nat}{H₀:View}{R:Rg}{L L':Bl}{K:Rg->Bl->Prop}{o:Oper}{d:Nat}{v:Value}
theorem mW(a:List UInt8)(b:UInt8):(ByteArray.mk ⟨a⟩).push b=ByteArray.mk ⟨a++[b]⟩:=by
 apply ByteArray.ext
 apply Array.ext'
 simp
end
end Go.RL
namespace Go.Proofs.YtldmfjcgjdchcaaGreatDoor
open Go.RL Go.Proofs.Tryz
set_option maxRecDepth 10000
set_option maxHeartbeats 8000000
section
variable(M:Md prog)(H:View)
end
end Go.Proofs.YtldmfjcgjdchcaaGreatDoor
namespace Go.RL
open Go.Conc
section
variable {P:Program}{E:Env P}{M:Md P}{n:Nat}{H₀:View}{R:Rg}{L L':Bl}{K:Rg->Bl->Prop}{o:Oper}{d:Nat}{v:Value}
structure Xt(P:Program)(f:FuncId)(e:Array Value->Sem Value):Prop where
 ex:∃fn,P.funcs[f]? =some fn/\(fn.name== "runtime.NumGoroutine")=false/\fn.body.isNone=true/\Extern.findNext fn=none/\Extern.find fn=some e
theorem Y0 {g:FuncId}{e:Array Value->Sem Value}{args:Array Value}{H:View}{Q:Next->View->Prop}(he:Xt P g e)(h:KA P (e args) H fun u H'=> Q (.value u) H'):KA P (callFunc g args) H Q:=by
 obtain⟨fn,h1,h2,h3,h4,h5⟩:=he;show KA P (match P.funcs[g]? with|none=> _|some fn=> _) H Q;rw[h1];simp only[h2,h3,h4,h5,Bool.false_eq_true,if_false,if_true];refine⟨rfl,?_⟩;exact aA (e args) _ h
theorem qA.entry {cl:Go.Call}{x:Operand}{g:FuncId}{az:List Value}{e:Array Value->Sem Value}(lA:o.op=.call cl)(nB:cl.callee=.value x)(hx:JA R x=some (.func (.func g) #[] #[]))(has:HD R cl.args.toList=some az)(he:Xt P g e)
  (hv:∀(H:View) (Q:Value->View->Prop),Q v H->KA P (e az.toArray) H Q):qA P n H₀ R L o v:=fun H tmps _ hr=> by
 have e1:=hr.ev hx;have qM:cl.args.map (fC tmps)=az.toArray:=by
  apply Array.ext'
  simpa using hr.evs has
 have hex:execOp (fC tmps) o=(resolve (fC tmps) cl o.type).bind fun d=> invoke d.target d.args:=by unfold execOp;rw[lA];rfl
 rw[hex];have:((resolve (fC tmps) cl o.type).bind fun d=> invoke d.target d.args)=(Deferred.ofValue (.func (.func g) #[] #[]) az.toArray).bind fun d=> invoke d.target d.args:=by
  unfold resolve;rw[nB];simp only[e1,qM]
 rw[this];simp only[Deferred.ofValue];show KA P (callFunc g (#[]++az.toArray ++ #[])) H _;have e3:(#[]:Array Value)++az.toArray ++ #[]=az.toArray:=by simp
 rw[e3];exact Y0 he (hv H _ ⟨rfl,rfl⟩)
theorem RX {H:View}{r:Nat}{f:Bool}{c:Array Value}{e:TypeId}{fz:Nat×Nat}{Q:Option (Addr×TypeId)->View->Prop}(hb:H r=some (f,.cells c e fz))(h:Q none H):KA P (viewAt r) H Q:=⟨f,c,e,fz,hb,h⟩
theorem MV {H:View}{r:Nat}{f:Bool}{c:Array Value}{e:TypeId}{fz:Nat×Nat}{Q:Option Nat->View->Prop}(hb:H r=some (f,.cells c e fz))(h:Q (some c.size) H):KA P (cellsIn r) H Q:=⟨f,c,e,fz,hb,h⟩
theorem NP {H:View}{a:Addr}{f:Bool}{c:Array Value}{e:TypeId}{fz:Nat×Nat}{Q:Addr->View->Prop}(hb:H a.block=some (f,.cells c e fz))(h:Q a H):KA P (Conv.seenAt a) H Q:=by
 refine aA (viewAt a.block) _ (RX hb ?_);exact h
theorem qA.aGJ(j:Nat){t u pt:TypeId}{x:Operand}{blk off:Nat}{f:Bool}{c:List Value}{e:TypeId}{fz:Nat×Nat}{r:EA}(lA:o.op=.convert t u x)(hx:JA R x=some (.pointer (some ⟨blk,off,none⟩)))(hi:L[j]? =some (blk,f,.cells ⟨c⟩ e fz))
  (ht:P.underlying t=some (.pointer pt)) (hu:P.underlying u=some .unsafePointer) (hr:E.ty pt=some r) (h0:Nat.beq r.size 0=false) (hl:Nat.blt off c.length=true):qA P n H₀ R L o (.pointer (some ⟨blk,off,none⟩)):=fun H tmps hs hrr=> by
 unfold execOp;rw[lA];simp only[hrr.ev hx];refine aA (convert t u (.pointer (some ⟨blk,off,none⟩))) _ ?_;unfold convert;refine aA (underlying t) _ (fA ht (aA (underlying u) _ (fA hu ?_)));show KA P (Conv.unsafePointer t u (.pointer (some ⟨blk,off,none⟩))) H _;unfold Conv.unsafePointer;refine aA (underlying t) _ (fA ht (aA (underlying u) _ (fA hu ?_)));have hb:=hs.get hi;refine aA (Conv.seenAt ⟨blk,off,none⟩) _ (NP hb ?_);refine aA (cellsIn blk) _ (MV hb ?_);refine aA (sizeOf pt) _ (QA (E.ok _ _ hr).size ?_);have h1:r.size≠0:=Nat.ne_of_beq_eq_false h0;have h2:off<c.length:=by simpa [Nat.blt_eq] using hl
 have h3:(decide (r.size=0)||(decide (off≥(⟨c⟩:Array Value).size)&&(none:Option (Nat×Nat)).isNone))=false:=by
  have e1:decide (r.size=0)=false:=decide_eq_false h1;have e2:decide (off≥(⟨c⟩:Array Value).size)=false:=decide_eq_false (by show ¬off≥c.length;omega);rw[e1,e2];rfl
 rw[if_neg (by intro h;exact Bool.false_ne_true (h3.symm.trans h))];exact⟨rfl,rfl⟩
theorem qA.aBG(j:Nat){t u pt:TypeId}{x:Operand}{blk off:Nat}{f:Bool}{c:List Value}{e:TypeId}{fz:Nat×Nat}{r:EA}(lA:o.op=.convert t u x)(hx:JA R x=some (.pointer (some ⟨blk,off,none⟩)))(hi:L[j]? =some (blk,f,.cells ⟨c⟩ e fz))
  (ht:P.underlying t=some .unsafePointer) (hu:P.underlying u=some (.pointer pt)) (hr:E.ty pt=some r) (FU:liesAt P P.depth e (c.length/P.cellsOf e) off pt 1=true):qA P n H₀ R L o (.pointer (some ⟨blk,off,none⟩)):=fun H tmps hs hrr=> by
 unfold execOp;rw[lA];simp only[hrr.ev hx];refine aA (convert t u (.pointer (some ⟨blk,off,none⟩))) _ ?_;unfold convert;refine aA (underlying t) _ (fA ht (aA (underlying u) _ (fA hu ?_)));show KA P (Conv.unsafePointer t u (.pointer (some ⟨blk,off,none⟩))) H _;unfold Conv.unsafePointer;refine aA (underlying t) _ (fA ht (aA (underlying u) _ (fA hu ?_)));have hb:=hs.get hi;refine aA (Conv.seenAt ⟨blk,off,none⟩) _ (NP hb ?_);refine aA (sizeOf pt) _ (QA (E.ok _ _ hr).size ?_);refine aA (variablesAt ⟨blk,off,none⟩ pt 1) _ ?_;refine⟨f,_,_,_,hb,?_⟩;show KA P (Sem.pure (liesAt P P.depth e (c.length/P.cellsOf e) off pt 1)) H _;rw[FU];show KA P (if(decide (r.size=0)||true)=true then _ else _) H _;rw[if_pos (by rw[Bool.or_true])];exact⟨rfl,rfl⟩
theorem qA.Q6(b:Bool){t u pt:TypeId}{x y:Operand}{p:Option Addr}(lA:o.op=.binOp .eql t x y u)(hx:JA R x=some (.pointer p))(hy:JA R y=some (.pointer none))(ht:P.underlying t=some (.pointer pt))(hb:p.isNone=b):qA P n H₀ R L o (.bool b):=fun H tmps _ hr=> by
 subst hb;unfold execOp;rw[lA];simp only[hr.ev hx,hr.ev hy];show KA P (((eqGuard .eql t x y (.pointer p) (.pointer none)).bind fun _=> binOp .eql t (.pointer p) (.pointer none)).bind _) H _;refine aA _ _ (aA _ _ ?_);show KA P ((Op.equalIn (9999+1) t (.pointer p) (.pointer none)).bind fun c=> Sem.pure (Value.bool c)) H _;refine aA _ _ ?_;unfold Op.equalIn;refine aA (underlying t) _ (fA ht ?_);cases p <;> exact⟨rfl,rfl⟩
theorem qA.aAs {t u pt:TypeId}{x y:Operand}{a:Addr}{r:EA}(lA:o.op=.binOp .neq t x y u)(hx:JA R x=some (.pointer (some a)))(hy:JA R y=some (.pointer (some a)))(ht:P.underlying t=some (.pointer pt))(uE:E.ty pt=some r)(h0:Nat.beq r.size 0=false):
  qA P n H₀ R L o (.bool false):=fun H tmps _ hr=> by
 unfold execOp;rw[lA];simp only[hr.ev hx,hr.ev hy];show KA P (((eqGuard .neq t x y (.pointer (some a)) (.pointer (some a))).bind fun _=> binOp .neq t (.pointer (some a)) (.pointer (some a))).bind _) H _;refine aA _ _ (aA _ _ ?_);show KA P ((Op.equalIn (9999+1) t (.pointer (some a)) (.pointer (some a))).bind fun c=> Sem.pure (Value.bool (!c))) H _;refine aA _ _ ?_;unfold Op.equalIn;refine aA (underlying t) _ (fA ht ?_);refine aA (sizeOf pt) _ (QA (E.ok _ _ uE).size ?_);have h1:r.size≠0:=Nat.ne_of_beq_eq_false h0;show KA P (if r.size≠0 then sameAddr a a else _) H _;rw[if_pos h1];have e:KA P (sameAddr a a) H fun c H'=> c=true/\H'=H:=by
  unfold sameAddr;simp only[BEq.rfl,if_true];exact⟨rfl,rfl⟩
 refine UA _ ?_ e;rintro _ _ ⟨rfl,rfl⟩;exact⟨rfl,rfl⟩
def ixB(s:List UInt8)(c:UInt8):Int:=
 match (List.range s.length).find? fun i=> (ByteArray.mk ⟨s⟩)[i]! ==c with
 | some i=> (i:Nat)
 | none=> -1
theorem aAM {s:List UInt8}{c:Nat}{H:View}{Q:Value->View->Prop}(h:Q (.int .i64 (ixB s (UInt8.ofNat c))) H):KA P (Extern.BytealgIndexByte.indexByte #[mA s,.int .u8 (c:Nat)]) H Q:=by
 show KA P (match (List.range s.length).find? fun i=> (ByteArray.mk ⟨s⟩)[i]! ==((c:Nat):Int).toNat.toUInt8 with|some i=> Sem.pure (goInt i)|none=> Sem.pure (goInt (-1))) H Q;rw[Int.toNat_natCast];have e:c.toUInt8=UInt8.ofNat c:=rfl;rw[e];unfold ixB at h;split at h
 ·exact h
 ·exact h
end
section
variable {P:Program}{E:Env P}{M:Md P}{n:Nat}{H₀:View}{R:Rg}{L L':Bl}{o:Oper}{K:Rg->Bl->Prop}{d:Nat}
theorem gA.sub {H:View}(h:gA H₀ L H)(p:L'.Sublist L):gA H₀ L' H:=
 ⟨h.nodup.sublist (p.map _),fun x hx=> h.out x (p.subset hx),fun x hx=> h.at_ x (p.subset hx),h.base⟩
def uQ {σ:Type}(H₁:View)(val:σ->Value)(bl:σ->Bl)(p:σ->Prop)(v:Value)(H':View):Prop:=
 ∃s H₂,v=val s/\H₁.le H₂/\gA H₂ (bl s) H'/\p s
theorem Or.lZ(k:Nat){σ:Type}(val:σ->Value)(bl:σ->Bl)(p:σ->Prop){cl:Go.Call}{x:Operand}{fv:Value}{az:List Value}(lA:o.op=.call cl)(nB:cl.callee=.value x)(hx:JA R x=some fv)(has:HD R cl.args.toList=some az)
  (hc:∀H₁ H,gA H₀ (L.take k) H₁->gA H₁ (L.drop k) H->uB M fv az H (uQ H₁ val bl p))
  (hk:∀s,p s->∃R',(match o.dst with|some d=> d<n/\R'=(d,val s)::R|none=> R'=R)/\K R' (L.take k++bl s)):Or M n H₀ R L o K:=
 .mO lA nB hx has (Q:=fun _ v H'=> ∃s,v=val s/\p s/\gA H₀ (L.take k++bl s) H') (fun H hs=> by
  have hs':gA H₀ (L.drop k++L.take k) H:=hs.perm (List.perm_append_comm.trans (by rw[List.take_append_drop]));obtain⟨H₁,h1,h2⟩:=hs'.oD;refine(hc H₁ H h2 h1).mono ?_;rintro v H' ⟨s,H₂,rfl,h3,h4,h5⟩;exact⟨s,rfl,h5,((h2.mono h3).append h4).perm List.perm_append_comm⟩) (by
  rintro H v H' hs ⟨s,rfl,h1,h2⟩;obtain⟨R',h3,h4⟩:=hk s h1;exact⟨_,R',h2,h3,h4⟩)
theorem Or.UK(k:Nat){σ:Type}(val:σ->Value)(bl:σ->Bl)(p:σ->Prop){cl:Go.Call}{x:Operand}{fv:Value}{az:List Value}(lA:o.op=.call cl)(nB:cl.callee=.value x)(hx:JA R x=some fv)(has:HD R cl.args.toList=some az)(hd:o.dst=some d)(hn:d<n)
  (hc:∀H₁ H,gA H₀ (L.take k) H₁->gA H₁ (L.drop k) H->uB M fv az H (uQ H₁ val bl p))
  (hk:∀s,p s->K ((d,val s)::R) (L.take k++bl s)):Or M n H₀ R L o K:=
 .lZ k val bl p lA nB hx has hc fun s hs=> ⟨_,by rw[hd];exact⟨hn,rfl⟩,hk s hs⟩
theorem Or.aBr {t u e:TypeId}{x:Operand}{s:List UInt8}{r re r':EA}(lA:o.op=.convert t u x)(hx:JA R x=some (mA s))(ht:E.ty t=some r)(hr:r.ds=.str)(s8:E.ty u=some r')(uE:r'.ds=.slice e)(hte:E.ty e=some re)(kD:re.ds=.int .u8)(hd:o.dst=some d)(hn:d<n)
  (hk:∀blk cap (jj:List Value) fz,K ((d,.slice (some ⟨blk,0,none⟩) s.length cap)::R) ((blk,true,.cells ⟨sB s++jj⟩ e fz)::L)):Or M n H₀ R L o K:=
 .val hd hn fun H tmps hs hr0=> by
  unfold execOp;rw[lA];simp only[hr0.ev hx];refine aA (convert t u (mA s)) _ ?_;unfold convert;refine aA (underlying t) _ (fA (DF ((E.ok _ _ ht).ds.trans hr)) (aA (underlying u) _ (fA (MC ((E.ok _ _ s8).ds.trans uE)) ?_)));refine aA (underlying e) _ (fA (kM ((E.ok _ _ hte).ds.trans kD)) ?_);show KA P (Conv.stringToBytes e ⟨⟨s⟩⟩) H _;unfold Conv.stringToBytes;refine aA (choose _) _ ?_;intro tt;rw[if_neg (by simp[Question.forced])];generalize (Question.appendCap (ByteArray.mk ⟨s⟩).size 0 e).cut tt=cap;refine aA (newRow e _) _ ?_;have e1:(ByteArray.mk ⟨s⟩).data.map (fun b=> Value.int .u8 (b.toNat:Int))++Array.replicate (cap-(ByteArray.mk ⟨s⟩).size) (Value.int .u8 0)=⟨sB s++List.replicate (cap-s.length) (.int .u8 0)⟩:=by
   apply Array.ext'
   simp[sB]
   rfl
  rw[e1];intro blk lI;refine aA (markStringish ⟨blk,0,none⟩) _ ?_;refine⟨true,_,_,_,View.LA ..,?_⟩;refine⟨Nat.one_ne_zero,_,_,_,View.LA ..,?_⟩;refine⟨_,rfl,_,?_,hk blk cap (List.replicate (cap-s.length) (.int .u8 0)) ?fz⟩;have e2:∀(H:View) (b:Nat) (x y:Bool×Obj),(H.put b x).put b y=H.put b y:=fun H b x y=> by
   funext c
   by_cases h:c=b
   ·subst h;rw[View.LA,View.LA]
   ·rw[View.vA _ _ h,View.vA _ _ h,View.vA _ _ h]
  rw[e2];exact hs.cons _ lI
theorem Or.aBs(i:Nat){cl:Go.Call}{x y:Operand}{t xt e e':TypeId}{m q cap blk off:Nat}{yv:Value}{new c c':List Value}{r re:EA}(lA:o.op=.call cl)(nB:cl.callee=.builtin .copy)(vH:cl.argTypes=#[t,xt])(DH:cl.args=#[x,y])
  (hx:JA R x=some (.slice (some ⟨blk,off,none⟩) q cap)) (hy:JA R y=some yv) (ht:E.ty t=some r) (SB:r.ds=.slice e) (kD:E.ty e=some re) (AD:re.size=1)
  (hi:L[i]? =some (blk,true,.cells ⟨c⟩ e' (0,0))) (jG:∀H,gA H₀ L H->OA H 1 yv m new) (hs:new.all single=true) (hm:m<=q) (hl:off+q<=c.length) (hd:o.dst=some d) (hn:d<n) (hc:HF c off new=c')
  (hk:K ((d,.int .i64 (m:Nat))::R) (L.set i (blk,true,.cells ⟨c'⟩ e' (0,0)))):Or M n H₀ R L o K:=
 .val hd hn fun H tmps IB hr=> by
  have UQ:=jG H IB;unfold execOp;rw[lA];simp only[resolve,nB,vH,DH];have SW:Array.map (fC tmps) #[x,y]=#[.slice (some ⟨blk,off,none⟩) q cap,yv]:=by simp[hr.ev hx,hr.ev hy]
  rw[SW];refine aA (Builtin.copy_ #[t,xt] o.type #[.slice (some ⟨blk,off,none⟩) q cap,yv]) _ ?_;show KA P ((underlying t).bind fun _=> _) H _;refine aA (underlying t) _ (fA (MC ((E.ok _ _ ht).ds.trans SB)) ?_);show KA P ((Builtin.lenOf yv).bind fun _=> _) H _;refine aA (Builtin.lenOf yv) _ (UQ.lenOf ?_);show KA P ((sizeOf e).bind fun _=> _) H _;refine aA (sizeOf e) _ (QA (E.ok _ _ kD).size ?_);have aGg:Nat.min m q=m:=Nat.min_eq_left hm;rw[aGg,AD];refine aA (Builtin.firstCells 1 m yv) _ (XC UQ ?_);show KA P ((storeCells ⟨blk,off,none⟩ new).bind fun _=> Sem.pure (Value.int .i64 (m:Nat))) H _;refine aA _ _ ?_;have hlen:new.length=m:=by have:=UQ.2.1;omega
  refine qC blk off new 0 c (IB.get hi) (by simp only[Nat.add_zero];omega) hs fun H' GO=> ?_;by_cases xB:new= []
  ·rw[if_pos xB] at GO;subst GO;have e1:c'=c:=by rw[<-hc,xB,ZN]
   rw[e1] at hk;have e2:L.set i (blk,true,.cells ⟨c⟩ e' (0,0))=L:=by
    apply List.ext_getElem?
    intro j;rw[List.getElem?_set];split
    ·rename_i h
     subst h;rw[hi];split
     ·rfl
     ·rename_i h2
      rw[List.getElem?_eq_none oM] at hi;cases hi
    ·rfl
   rw[e2] at hk;exact⟨_,rfl,_,IB,hk⟩
  ·rw[if_neg xB] at GO;rw[GO];refine⟨_,rfl,_,IB.set hi _,?_⟩;rw[show HF c (off+0) new=c' from hc];exact hk
end
end Go.RL
namespace Go.Proofs.YtldmfjcgjdchcaaGreatDoor
open Go.RL Go.Proofs.Tryz
set_option maxRecDepth 10000
set_option maxHeartbeats 16000000
def pn(x:UInt8):Nat:=if x.toNat=48 then 10 else x.toNat-48
theorem oP {x:UInt8}(h:BD x=true):1<=pn x/\pn x<=10:=by
 have:=of_decide_eq_true h;unfold pn;split <;> omega
def HC(s:List UInt8)(i:Nat):Nat:=pn (s[i]?.getD 48)
def slip(s:List UInt8)(i m:Nat):List UInt8:=s.take i++[tE m]++s.drop (i+1)
def YI(s:List UInt8)(i m:Nat):List (List UInt8):=if 1<=m/\m<=10 then [slip s i m] else []
def SH(s:List UInt8)(i:Nat):List (List UInt8):=YI s i (HC s i-1)++YI s i (HC s i+1)
def lC(s:List UInt8)(i:Nat):List (List UInt8):=(List.range' i (s.length-i)).flatMap (SH s)
def YG(s:List UInt8):List (List UInt8):=lC s 0
theorem ZI {s:List UInt8}{i:Nat}(h:i<s.length):lC s i=SH s i++lC s (i+1):=by
 unfold lC;rw[show s.length-i=(s.length-(i+1))+1 by omega];rfl
theorem dK {s:List UInt8}{i:Nat}(h:s.length<=i):lC s i= []:=by
 unfold lC;rw[show s.length-i=0 by omega];rfl
theorem jQ {s x:List UInt8}{i:Nat}:x∈lC s i<->∃j,i<=j/\j<s.length/\x∈SH s j:=by
 unfold lC;simp only[List.mem_flatMap,List.mem_range'_1];constructor
 ·rintro⟨j,h1,h2⟩;exact⟨j,h1.1,oM,h2⟩
 ·rintro⟨j,h1,h2,h3⟩;exact⟨j,⟨h1,oM⟩,h3⟩
def zP(s:List UInt8)(i j:Nat):Nat:=if j=0 then HC s i-1 else HC s i+1
def gE(s:List UInt8)(i j:Nat):List (List UInt8):=(if j=0 then YI s i (HC s i-1) else [])++((if j<=1 then YI s i (HC s i+1) else [])++lC s (i+1))
theorem kQ(s:List UInt8)(i j:Nat)(h:j<2):gE s i j=YI s i (zP s i j)++gE s i (j+1):=by
 rcases(by omega:j=0\/j=1) with rfl|rfl
 ·simp[gE,zP]
 ·simp[gE,zP]
theorem cT(s:List UInt8)(i:Nat):gE s i 2=lC s (i+1):=by simp[gE]
theorem lQ {s:List UInt8}{i:Nat}(h:i<s.length):lC s i=gE s i 0:=by
 rw[ZI h];simp[gE,SH]
def AV(b:Nat):Value:=.func (.func 221) #[] #[.pointer (some ⟨b,0,none⟩)]
def XF(s:List UInt8)(b:Nat)(H:View):Prop:=∃f,H b=some (f,.cells ⟨[mA s]⟩ 9 (0,0))
theorem XF.le {s:List UInt8}{b:Nat}(H H':View)(h:H.le H')(c:XF s b H):XF s b H':=c.imp fun _ e=> h _ _ e
theorem sJ(s:List UInt8)(p:Nat)(hp:p<s.length)(hd:s.all BD=true):∃x,s[p]? =some x/\BD x=true/\Utf8.decode ⟨⟨s⟩⟩ p=(x.toNat,1):=by
 have hx:=List.getElem?_eq_getElem hp;have h1:BD s[p]=true:=List.all_eq_true.1 hd _ (List.getElem_mem hp);refine⟨s[p],hx,h1,?_⟩;obtain⟨z,w,h2,_,y,h3,h4,_⟩:=X3 s p hp;rw[hx] at h3;cases h3
 have:=of_decide_eq_true h1;obtain⟨rfl,rfl⟩:=h4 oM;exact h2
section
variable(M:Md prog)(H:View)
theorem pP(x:UInt8)(hx:BD x=true):bA M 44 #[.int .i32 (x.toNat:Nat)] H (fun v H'=> H.le H'/\v=.int .i64 (pn x:Nat)):=by
 have hd:=of_decide_eq_true hx;by_cases c1:x.toNat=48
 ·have e:pn x=10:=if_pos c1;rw[e,c1];refine .en func44 ntmps44 fun St c cs hK=> ?_;refine XP ?_;refine .rt hK func44 results44 [_] ?_;exact okB
 ·have e:pn x=x.toNat-48:=if_neg c1;rw[e];have c2:¬((x.toNat:Nat):Int)=48:=by omega
  have w1:pA .sub .i32 ((x.toNat:Nat):Int) 48=some (.int .i32 ((x.toNat-48:Nat):Int)):=by
   have:IntKind.i32.wrap (((x.toNat:Nat):Int)-48)=((x.toNat-48:Nat):Int):=by
    rw[show((x.toNat:Nat):Int)-48=((x.toNat-48:Nat):Int) by omega];exact IntWalk.i32_in _ ⟨oM,oM⟩
   show some (Value.int _ (IntKind.i32.wrap _))=_;rw[this]
  have w2:IntKind.i64.wrap ((x.toNat-48:Nat):Int)=((x.toNat-48:Nat):Int):=wrap64 oM oM;refine .en func44 ntmps44 fun St c cs hK=> ?_;refine YP ?_;refine .rt hK func44 results44 [_] ?_;exact okB
theorem aAz(m:Nat)(hm:m<10):bA M 286 #[.int .i64 (m:Nat)] H (fun v H'=> H.le H'/\v=mA [tE m]):=by
 have e:(([48,49,50,51,52,53,54,55,56,57,97,98,99,100,101,102,103,104,105,106,107,108,109,110,111,112,113,114,115,116,117,118,119,120,121,122]:List UInt8).drop ((m:Nat):Int).toNat).take ((((m:Nat):Int)+1).toNat-((m:Nat):Int).toNat)= [tE m]:=by
  rcases(by omega:m=0\/m=1\/m=2\/m=3\/m=4\/m=5\/m=6\/m=7\/m=8\/m=9) with rfl|rfl|rfl|rfl|rfl|rfl|rfl|rfl|rfl|rfl <;> rfl
 have hl:(([48,49,50,51,52,53,54,55,56,57,97,98,99,100,101,102,103,104,105,106,107,108,109,110,111,112,113,114,115,116,117,118,119,120,121,122]:List UInt8).length:Nat)=36:=rfl;rw[<-e];refine .en func286 ntmps286 fun St c cs hK=> ?_;refine vQ ?_;refine .x (qA.XG (E:=en) (l:= [48,49,50,51,52,53,54,55,56,57,97,98,99,100,101,102,103,104,105,106,107,108,109,110,111,112,113,114,115,116,117,118,119,120,121,122]) rfl rfl rfl rfl rfl rfl oM oM oM) ?_;refine U2 ?_;refine .rt hK func286 results286 [_] ?_;exact okB
theorem MT(m:Nat)(hm:m<10):bA M 240 #[.int .i64 (m:Nat),.int .i64 10] H (fun v H'=> H.le H'/\v=mA [tE m]):=by
 refine .en func240 ntmps240 fun St c cs hK=> ?_;refine U25 ?_;refine .cl (fun H hs=> aAz M H m hm) ?_;refine U2 ?_;refine .rt hK func240 results240 [_] ?_;exact okB
theorem G8(m:Nat)(hm:m<10):bA M 173 #[.int .i64 (m:Nat)] H (fun v H'=> H.le H'/\v=mA [tE m]):=by
 refine .en func173 ntmps173 fun St c cs hK=> ?_;refine U7 ?_;refine .cl (fun H hs=> MT M H m hm) ?_;refine U2 ?_;refine .rt hK func173 results173 [_] ?_;exact okB
theorem aBd(m:Nat)(hm:m<10):bA M 93 #[.int .i64 (m:Nat)] H (fun v H'=> H.le H'/\v=mA [tE m]):=by
 refine .en func93 ntmps93 fun St c cs hK=> ?_;refine U7 ?_;refine .cl (fun H hs=> G8 M H m hm) ?_;refine U2 ?_;refine .rt hK func93 results93 [_] ?_;exact okB
theorem dT(s:List UInt8):bA M 134 #[mA s] H (fun v H'=> H.le H'/\∃b,v=AV b/\XF s b H'):=by
 refine .en func134 ntmps134 fun St c cs hK=> ?_;refine U2 ?_;refine .bo fun b1=> ?_;refine U7 ?_;refine .rt hK func134 results134 [_] ?_;exact fun H' hs=> ⟨hs.base,b1,rfl,true,hs.get (i:=0) rfl⟩
theorem AP(s:List UInt8)(GH:s.all BD=true)(OO:s.length<=1000)(b1:Nat)(hC:XF s b1 H):
  QJ M (AV b1) (YG s) (fun x (_:Unit)=> [mA x]) (fun _ _=> []) (fun _ _=> []) (XF s b1) [] H:=fun l J D wB h0 hy H₀ ME=> by
 refine uB.of (first:= []) (captured:= [_]) aD7 rfl ?_;obtain⟨fa,hb1⟩:=hC;refine bA.enter (vs:= [.func (.yield l) #[] #[],.pointer (some ⟨b1,0,none⟩)]) func221 rfl ntmps221 (Nat.le_of_ble_eq_true rfl) (ME) fun St c cs hK=> ?_;refine U3 ?_;refine .e (Or.YS (E:=en) (s:=⟨⟨s⟩⟩) rfl rfl rfl rfl rfl dE (fun it=> ?_));refine U2 ?_;refine Tc.db (Tc.NI (σ:= { x:Nat×View//x.1<=s.length/\J (lC s x.1) x.2 })
  (fun x=> (x.1.2,[(0,.func (.yield l) #[] #[]),(1,.pointer (some ⟨b1,0,none⟩)),(8,.pointer (some ⟨it,0,none⟩))],[(it,true,.stringIter ⟨⟨s⟩⟩ x.1.1)])) (fun x=> s.length-x.1.1) ?_ ⟨(0,H),Nat.zero_le _,h0⟩)
 rintro⟨⟨p,H₁⟩,g1,j1⟩ ih₁;simp only at g1 j1;show Tc M St _ _ H₁ _ [(0,.func (.yield l) #[] #[]),(1,.pointer (some ⟨b1,0,none⟩)),(8,.pointer (some ⟨it,0,none⟩))] [(it,true,.stringIter ⟨⟨s⟩⟩ p)] _ _;by_cases c1:p=s.length
 ·subst c1;rw[dK (Nat.le_refl _)] at j1;have p8:¬s.length<(ByteArray.mk ⟨s⟩).size:=by show ¬s.length<s.length;omega
  refine U2 ?_;refine .e (Or.PS 0 rfl rfl rfl p8 rfl dE ?_);refine U5 ?_;refine .ov hK func221 results221 [] ?_;exact fun H' hs=> ⟨H₁,hs.base,.inl j1⟩
 ·have c2:p<s.length:=by omega
  obtain⟨x,hx,F1,lL⟩:=sJ s p c2 GH;have CY:=oP F1;have fQ:p<(ByteArray.mk ⟨s⟩).size:=c2;have r8:HC s p=pn x:=by unfold HC;rw[hx];rfl
  rw[lQ c2] at j1;refine U2 ?_;refine .e (Or.jP 0 rfl rfl rfl fQ lL rfl dE ?_);refine vQ ?_;refine .cl (fun H hs=> pP M H x F1) ?_;refine U2 ?_;refine .cl (fun H hs=> pP M H x F1) ?_;refine U5 ?_;refine Tc.db (Tc.NI (σ:= { y:Nat×View//y.1<=2/\J (gE s p y.1) y.2 })
   (fun y=> (y.1.2,[(0,.func (.yield l) #[] #[]),(1,.pointer (some ⟨b1,0,none⟩)),(3,.int .i64 (p:Nat)),(8,.pointer (some ⟨it,0,none⟩)),(19,.agg ⟨[.int .i64 ((pn x:Nat)-1:Int),.int .i64 ((pn x:Nat)+1:Int)]⟩),(20,.int .i64 (y.1.1:Nat))],[(it,true,.stringIter ⟨⟨s⟩⟩ (p+1))])) (fun y=> 2-y.1.1) ?_ ⟨(0,H₁),oM,j1⟩)
  rintro⟨⟨j,H₂⟩,g2,j2⟩ ih₂;simp only at g2 j2;show Tc M St _ _ H₂ _ [(0,.func (.yield l) #[] #[]),(1,.pointer (some ⟨b1,0,none⟩)),(3,.int .i64 (p:Nat)),(8,.pointer (some ⟨it,0,none⟩)),(19,.agg ⟨[.int .i64 ((pn x:Nat)-1:Int),.int .i64 ((pn x:Nat)+1:Int)]⟩),(20,.int .i64 (j:Nat))] [(it,true,.stringIter ⟨⟨s⟩⟩ (p+1))] _ _;by_cases c3:j=2
  ·subst c3;rw[cT] at j2;refine U8 ?_;exact Tc.db (ih₁ ⟨(p+1,H₂),by simp only;omega,j2⟩ (by simp only;omega))
  ·have c4:j<2:=by omega
   obtain⟨m,hm⟩:∃m,zP s p j=m:=⟨_,rfl⟩
   have f1:gD false 1 [Value.int .i64 ((pn x:Nat)-1:Int),.int .i64 ((pn x:Nat)+1:Int)] (((j:Nat):Int).toNat*1)=some (.int .i64 (m:Nat)):=by
    rw[<-hm];unfold zP;rw[r8];rcases(by omega:j=0\/j=1) with rfl|rfl
    ·show some (Value.int .i64 _)=some (Value.int .i64 _)
     congr 2
     simp only[if_pos];omega
    ·show some (Value.int .i64 _)=some (Value.int .i64 _)
     congr 2
   have AT:m<=11:=by rw[<-hm];unfold zP;rw[r8];split <;> omega
   rw[kQ s p j c4,hm] at j2;obtain⟨fc,hc1⟩:=wB _ _ j2;by_cases c5:1<=((m:Nat):Int)/\((m:Nat):Int)<=10
   ·have e1:YI s p m= [slip s p m]:=if_pos oM;rw[e1] at j2;have a2:pA .rem .i64 (m:Nat) 10=some (.int .i64 ((m%10:Nat):Int)):=by rw[rem_in oM oM];rfl
    have lE:slip s p m∈YG s:=by
     refine jQ.2 ⟨p,Nat.zero_le _,c2,?_⟩;have hm2:m=HC s p-1\/m=HC s p+1:=by rw[<-hm];unfold zP;split <;> simp
     unfold SH;rcases hm2 with h|h
     ·rw[List.mem_append];exact .inl (by rw[<-h,e1];simp)
     ·rw[List.mem_append];exact .inr (by rw[<-h,e1];simp)
    have e2:(s.drop ((0:Nat):Int).toNat).take (((p:Nat):Int).toNat-((0:Nat):Int).toNat)++[tE (m%10)]++(s.drop (((p:Nat):Int)+1).toNat).take (((s.length:Nat):Int).toNat-(((p:Nat):Int)+1).toNat)=slip s p m:=by
     have e3:(((p:Nat):Int)+1).toNat=p+1:=by omega
     rw[kY,e3];unfold slip;simp
     exact List.take_of_length_le (by rw[List.length_drop];exact Nat.le_refl _)
    have hlen:(slip s p m).length<=1001:=by
     unfold slip;simp
     omega
    refine PE ?_;refine .x (qA.index (E:=en) rfl rfl rfl rfl rfl rfl oM oM (by assumption)) ?_;refine U3 ?_;refine Tc.drC [] [16] [] mixed rfl ?_;refine .oo 0 ?_;refine Ta.IX 1 kR rfl rfl dE rfl rfl (qA.tk fun H hs=> zA M H (m:Nat) 1 10 true (decide_eq_true c5)) ?_;refine .oo 2 ?_;refine .oo 3 ?_;refine .oo 4 ?_;refine .oo 5 ?_;refine Ta.IX 6 kR rfl rfl dE rfl rfl (qA.take (qA.XG (E:=en) rfl rfl rfl rfl rfl rfl oM oM oM)) ?_;refine .oo 7 ?_;refine .oo 8 ?_;refine Ta.IX 9 kR rfl rfl dE rfl rfl (qA.tk fun H hs=> aBd M H (m%10) (Nat.mod_lt _ dE)) ?_;refine Ta.IX 10 kR rfl rfl dE rfl rfl (qA.take (qA.fF rfl rfl rfl (by exact bJ (by simp <;> omega)))) ?_;refine .oo 11 ?_;refine .oo 12 ?_;refine .oo 13 ?_;refine Ta.IX 14 kR rfl rfl dE rfl rfl (qA.take (qA.XG (E:=en) rfl rfl rfl rfl rfl rfl oM oM oM)) ?_;refine Ta.IX 15 kR rfl rfl dE rfl rfl (qA.take (qA.fF rfl rfl rfl (by exact bJ (by simp <;> omega)))) ?_;rw[e2];refine Ta.vB 16 kR rfl kR rfl rfl rfl rfl rfl rfl dE (hy (slip s p m) (gE s p (j+1)) () H₂ H₂ lE j2 (gA.nil H₂)) (fun v H₃ hv=> ?_);rcases hv with ⟨rfl,H4,h8,j3⟩|⟨rfl,hD⟩
    ·refine Ta.lower h8.base ?_;refine .ea 17 rfl (Or.bV .nt rfl dE ⟨S3.off kR,?_⟩);refine .ea 18 rfl (Or.bV .pk rfl dE ⟨S3.off kR,?_⟩);refine .dn ?_;refine U7 ?_;exact Tc.db (ih₂ ⟨(j+1,H4),by simp only;omega,j3⟩ (by simp only;omega))
    ·refine .ea 17 rfl (Or.bV .nt rfl dE ⟨S3.off kR,?_⟩);refine .ea 18 rfl (Or.bV .pk rfl dE ⟨S3.off kR,?_⟩);refine .dn ?_;refine U ?_;refine .rt hK func221 results221 [] ?_;exact fun H' hs=> ⟨H₃,hs.base,.inr hD⟩
   ·have e1:YI s p m= []:=if_neg oM;rw[e1] at j2;refine PE ?_;refine .x (qA.index (E:=en) rfl rfl rfl rfl rfl rfl oM oM (by assumption)) ?_;refine U3 ?_;refine Tc.dr [] [] mixed rfl ?_;refine .nn 0 ?_;refine .z 1 rfl (qA.tk fun H hs=> zA M H (m:Nat) 1 10 false (decide_eq_false c5)) ?_;refine .nn 2 ?_;refine .nw 3 ?_;refine .nw 4 ?_;refine .nw 5 ?_;refine .nw 6 ?_;refine .nw 7 ?_;refine .nw 8 ?_;refine .nw 9 ?_;refine .nw 10 ?_;refine .nw 11 ?_;refine .nw 12 ?_;refine .nw 13 ?_;refine .nw 14 ?_;refine .nw 15 ?_;refine .nw 16 ?_;refine .nw 17 ?_;refine .nn 18 ?_;refine .dn ?_;refine U7 ?_;exact Tc.db (ih₂ ⟨(j+1,H₂),by simp only;omega,j2⟩ (by simp only;omega))
end
end Go.Proofs.YtldmfjcgjdchcaaGreatDoor
namespace Go.Proofs.YtldmfjcgjdchcaaGreatDoor
open Go.RL Go.Proofs.Tryz
set_option maxRecDepth 10000
def xA(l:List Int)(i:Nat):Int:=l[i]?.getD 0
def mB(l:List Int)(p q:Nat):List Int:=(l.set p (xA l q)).set q (xA l p)
theorem JM(l:List Int)(p q:Nat):(mB l p q).length=l.length:=by simp[mB]
theorem wC {l:List Int}{p q:Nat}(hp:p<l.length)(hq:q<l.length)(r:Nat):xA (mB l p q) r=if r=q then xA l p else if r=p then xA l q else xA l r:=by
 unfold mB xA;rw[List.getElem?_set];by_cases h1:q=r
 ·subst h1;rw[if_pos rfl,if_pos (by rw[List.length_set];exact hq),if_pos rfl];rfl
 ·rw[if_neg h1,if_neg (fun h=> h1 h.symm),List.getElem?_set];by_cases h2:p=r
  ·subst h2;rw[if_pos rfl,if_pos hp,if_pos rfl];rfl
  ·rw[if_neg h2,if_neg (fun h=> h2 h.symm)]
theorem CV {l:List Int}{p q:Nat}(hp:p<l.length)(hq:q<l.length)(x:Int):(mB l p q).count x=l.count x:=by
 unfold mB xA;rw[List.getElem?_eq_getElem hp,List.getElem?_eq_getElem hq];simp only[Option.getD_some];rw[List.count_set (by rw[List.length_set];exact hq),List.count_set hp,List.getElem_set];have h1:∀ {i:Nat} (h:i<l.length),l[i]=x->0<l.count x:=fun h e=> List.count_pos_iff.2 (e▸List.getElem_mem h);by_cases e:p=q
 ·subst e;simp only[if_true];by_cases e2:l[p]=x
  ·have:=h1 hp e2;simp only[e2,beq_self_eq_true,if_true];omega
  ·have e3:(l[p]==x)=false:=by simpa using e2
   simp only[e3,Bool.false_eq_true,if_false];omega
 ·simp only[if_neg e];by_cases e2:l[p]=x <;> by_cases e3:l[q]=x
  ·have:=h1 hp e2;simp only[e2,e3,beq_self_eq_true,if_true];omega
  ·have e4:(l[q]==x)=false:=by simpa using e3
   have:=h1 hp e2;simp only[e2,e4,beq_self_eq_true,if_true,Bool.false_eq_true,if_false];omega
  ·have e4:(l[p]==x)=false:=by simpa using e2
   have:=h1 hq e3;simp only[e3,e4,beq_self_eq_true,if_true,Bool.false_eq_true,if_false];omega
  ·have e4:(l[p]==x)=false:=by simpa using e2
   have e5:(l[q]==x)=false:=by simpa using e3
   simp only[e4,e5,Bool.false_eq_true,if_false];omega
structure kA(a b:Nat)(l m:List Int):Prop where
 len:m.length=l.length
 cnt:∀x,m.count x=l.count x
 out:∀i,i<a\/b<=i->xA m i=xA l i
theorem kA.refl(a b:Nat)(l:List Int):kA a b l l:=⟨rfl,fun _=> rfl,fun _ _=> rfl⟩
theorem kA.trans {a b:Nat}{l m n:List Int}(h:kA a b l m)(k:kA a b m n):kA a b l n:=⟨k.len.trans h.len,fun x=> (k.cnt x).trans (h.cnt x),fun i hi=> (k.out i hi).trans (h.out i hi)⟩
theorem kA.wide {a b a' b':Nat}{l m:List Int}(h:kA a b l m)(h1:a'<=a)(h2:b<=b'):kA a' b' l m:=⟨h.len,h.cnt,fun i hi=> h.out i oM⟩
theorem kA.swap {a b:Nat}{l:List Int}{p q:Nat}(hp:p<l.length)(hq:q<l.length)(h1:a<=p/\p<b)(h2:a<=q/\q<b):kA a b l (mB l p q):=
 ⟨JM ..,CV hp hq,fun i hi=> by rw[wC hp hq,if_neg oM,if_neg oM]⟩
def HE(a b:Nat)(l:List Int):Prop:=∀p q,a<=p->p<q->q<b->xA l p<=xA l q
theorem kA.mem {a b:Nat}{l m:List Int}(h:kA a b l m)(x:Int):x∈m<->x∈l:=by
 rw[<-List.count_pos_iff,<-List.count_pos_iff,h.cnt x]
theorem uA {l:List Int}{p:Nat}(h:p<l.length):xA l p∈l:=by
 unfold xA;rw[List.getElem?_eq_getElem h];exact List.getElem_mem h
set_option maxHeartbeats 8000000
theorem DJ(l:List Value)(i:Nat)(v:Value)(h:i<l.length):HF l i [v]=l.set i v:=by
 unfold HF;rw[List.set_eq_take_append_cons_drop,if_pos h];simp
def nA(dec:Int->List UInt8)(m:List Int):List Value:=m.map fun x=> mA (dec x)
theorem MB(dec:Int->List UInt8)(m:List Int):(nA dec m).length=m.length:=by simp[nA]
def DN(dec:Int->List UInt8)(l:List Int):Prop:=∀x∈l,∀y∈l,Op.bytesLess (dec x) (dec y)=decide (x<y)
theorem DN.uD {dec:Int->List UInt8}{l m:List Int}{a b:Nat}(h:DN dec l)(t:kA a b l m):DN dec m:=fun x hx y hy=> h x ((t.mem x).1 hx) y ((t.mem y).1 hy)
theorem aG {H₀ H H':View}{L:Bl}(h:gA H₀ L H){i sb:Nat}{x y:Bool×Obj}(hi:L[i]? =some (sb,x))(h1:∀b z,b≠sb->H b=some z->H' b=some z)(h2:H' sb=some y):gA H₀ (L.set i (sb,y)) H':=
 (h.set hi y).mono fun b z hb=> by
  by_cases e:b=sb
  ·subst e;rw[View.LA] at hb;rw[h2,hb]
  ·rw[View.vA _ _ e] at hb;exact h1 b z e hb
def gB(dec:Int->List UInt8)(H:View)(sb:Nat)(j:List Value)(P:Value->List Int->Prop)(v:Value)(H':View):Prop:=
 (∀b x,b≠sb->H b=some x->H' b=some x)/\∃m,P v m/\H' sb=some (true,.cells ⟨(nA dec m)++j⟩ 9 (0,0))
theorem gB.of {dec:Int->List UInt8}{H H':View}{sb:Nat}{j:List Value}{P:Value->List Int->Prop}{v:Value}{L:Bl}{m:List Int}(hs:gA (H.JC sb) L H'){i:Nat}(hi:L[i]? =some (sb,true,.cells ⟨(nA dec m)++j⟩ 9 (0,0)))(hP:P v m):gB dec H sb j P v H':=
 ⟨fun b x hb hx=> hs.base b x (by rw[PA hb];exact hx),m,hP,hs.get hi⟩
theorem Or.BE {dec:Int->List UInt8}{M:Md prog}{n:Nat}{H₀:View}{R:Rg}{L:Bl}{o:Oper}{K:Rg->Bl->Prop}{cl:Go.Call}{x:Operand}{fv:Value}{az:List Value}{d:Nat}(i:Nat){sb:Nat}{l:List Int}{j:List Value}(P:Value->List Int->Prop)
  (lA:o.op=.call cl) (nB:cl.callee=.value x) (hx:JA R x=some fv) (has:HD R cl.args.toList=some az) (hd:o.dst=some d) (hn:d<n) (hi:L[i]? =some (sb,true,.cells ⟨(nA dec l)++j⟩ 9 (0,0)))
  (hc:∀H,gA H₀ L H->uB M fv az H (gB dec H sb j P)) (hk:∀v m,P v m->K ((d,v)::R) (L.set i (sb,true,.cells ⟨(nA dec m)++j⟩ 9 (0,0)))):Or M n H₀ R L o K:=
 .mO lA nB hx has (Q:=fun H v H'=> gB dec H sb j P v H') hc fun H v H' hs ⟨h1,m,h2,h3⟩=>
  ⟨_,_,aG hs hi h1 h3,by rw[hd];exact⟨hn,rfl⟩,hk v m h2⟩
theorem rA {dec:Int->List UInt8}{m:List Int}{j:List Value}{k:Int}{p:Nat}(hk:k=(p:Nat))(hp:p<m.length):gD false 1 ((nA dec m)++j) (0+k.toNat*1)=some (mA (dec (xA m p))):=by
 subst hk;show((nA dec m)++j)[0+(p:Int).toNat*1]? =_;rw[Nat.zero_add,Nat.mul_one,Int.toNat_natCast,List.getElem?_append_left (by rw[MB];exact hp)];unfold nA xA;rw[List.getElem?_map,List.getElem?_eq_getElem hp];rfl
theorem BA {dec:Int->List UInt8}{m:List Int}{j:List Value}{k x:Int}{p:Nat}(hk:k=(p:Nat))(hp:p<m.length):HF ((nA dec m)++j) (0+k.toNat*1) [mA (dec (x))]=(nA dec (m.set p x))++j:=by
 subst hk;rw[Nat.zero_add,Nat.mul_one,Int.toNat_natCast,DJ _ _ _ (by rw[List.length_append,MB];omega),List.set_append_left _ _ (by rw[MB];exact hp)];unfold nA;rw[List.map_set]
theorem AA {dec:Int->List UInt8}{m:List Int}{j:List Value}{k:Int}{p:Nat}(hk:k=(p:Nat))(hp:p<m.length):Nat.ble (0+k.toNat*1+1) ((nA dec m)++j).length=true:=by
 subst hk;rw[Nat.ble_eq,List.length_append,MB,Int.toNat_natCast];omega
section
variable(M:Md prog)(H:View)
theorem T5(s:List UInt8):bA M 306 #[mA s] H (fun v H'=> H.le H'/\v=.bool false):=by
 refine .en func306 ntmps306 fun St c cs hK=> ?_;refine PE ?_;refine .rt hK func306 results306 [_] ?_;exact fun H' hs=> ⟨hs.base,by simp[cC]⟩
theorem J8(s p:List UInt8):bA M 262 #[mA s,mA p] H (fun v H'=> H.le H'/\v=.bool (Op.bytesLess s p)):=by
 refine .en func262 ntmps262 fun St c cs hK=> ?_;refine U7 ?_;refine .cl (fun H hs=> T5 M H s) ?_;refine NF ?_;refine .rt hK func262 results262 [_] ?_;exact okB
theorem aC {dec:Int->List UInt8}{l:List Int}(hE:DN dec l){x y:Int}(hx:x∈l)(hy:y∈l)(t:Bool)(ht:decide (x<y)=t):bA M 262 #[mA (dec x),mA (dec y)] H (fun v H'=> H.le H'/\v=.bool t):=
 JF (J8 M H (dec x) (dec y)) ((hE x hx y hy).trans ht)
end
theorem zS {m:List Int}{a i j:Nat}(hg:∀p q,a<=p->p<q->q<=i->q≠j->xA m p<=xA m q)(hj:a<j)(hle:¬xA m j<xA m (j-1)):HE a (i+1) m:=fun p q h1 h2 h3=> by
 by_cases e:q=j
 ·subst e;have h4:xA m p<=xA m (q-1):=by
   by_cases e2:p=q-1
   ·rw[e2];exact Int.le_refl _
   ·exact hg p (q-1) h1 oM oM oM
  omega
 ·exact hg p q h1 h2 oM e
theorem RO {m:List Int}{a i j:Nat}(hi:i<m.length)(MO:j<=i)(hg:∀p q,a<=p->p<q->q<=i->q≠j->xA m p<=xA m q)(hj:a<j)(HB:xA m j<xA m (j-1)):
  ∀p q,a<=p->p<q->q<=i->q≠j-1->xA (mB m j (j-1)) p<=xA (mB m j (j-1)) q:=fun p q h1 h2 h3 h4=> by
 rw[wC oM oM,wC oM oM,if_neg h4];by_cases e:q=j
 ·rw[if_pos e];by_cases e2:p=j-1
  ·rw[if_pos e2];omega
  ·rw[if_neg e2,if_neg oM];exact hg p (j-1) h1 oM oM oM
 ·rw[if_neg e];by_cases e2:p=j-1
  ·rw[if_pos e2];exact hg j q oM oM h3 e
  ·rw[if_neg e2];by_cases e3:p=j
   ·rw[if_pos e3];exact hg (j-1) q oM oM h3 e
   ·rw[if_neg e3];exact hg p q h1 h2 h3 e
section
variable(M:Md prog)(H:View)
theorem rL(dec:Int->List UInt8)(sb:Nat)(l:List Int)(jj:List Value)(n cap a b:Nat)(hn:n=l.length)(hE:DN dec l)(hb:b<=n)(wF:n<=100000000)(ha:a<=n)(hS:H sb=some (true,.cells ⟨(nA dec l)++jj⟩ 9 (0,0))):
  bA M 256 #[.slice (some ⟨sb,0,none⟩) n cap,.int .i64 (a:Nat),.int .i64 (b:Nat)] H (gB dec H sb jj (fun v m=> v=.tuple ⟨[]⟩/\kA a b l m/\HE a b m)):=by
 refine bA.enter (vs:= [.slice (some ⟨sb,0,none⟩) n cap,.int .i64 (a:Nat),.int .i64 (b:Nat)]) func256 rfl ntmps256 (Nat.le_of_ble_eq_true rfl) (gA.pull hS) fun St c cs hK=> ?_;have ha1:pA .add .i64 (a:Nat) 1=some (.int .i64 ((a+1:Nat):Int)):=by rw[eC oM oM];rfl
 refine U7 ?_;refine Tc.db (Tc.tA (σ:= { s:Nat×List Int//a+1<=s.1/\(s.1<=b\/s.1=a+1)/\kA a b l s.2/\HE a s.1 s.2 }) (fun s=> ([(0,.slice (some ⟨sb,0,none⟩) n cap),(1,.int .i64 (a:Nat)),(2,.int .i64 (b:Nat)),(6,.int .i64 (s.1.1:Nat))],[(sb,true,.cells ⟨(nA dec s.1.2)++jj⟩ 9 (0,0))])) (fun s=> b-s.1.1) ?_
  ⟨(a+1,l),by simp,by simp,kA.refl ..,fun p q h1 h2 h3=> by omega⟩)
 rintro⟨⟨i,m⟩,g1,g2,g3,g4⟩ ih;simp only at g1 g2 g3 g4;show Tc M St _ _ _ _ [(0,.slice (some ⟨sb,0,none⟩) n cap),(1,.int .i64 (a:Nat)),(2,.int .i64 (b:Nat)),(6,.int .i64 (i:Nat))] [(sb,true,.cells ⟨(nA dec m)++jj⟩ 9 (0,0))] _ _;by_cases c1:i<b
 ·have GK:=g3.len;have hi1:pA .add .i64 (i:Nat) 1=some (.int .i64 ((i+1:Nat):Int)):=by rw[eC oM oM];rfl
  refine OK ?_;refine Tc.db (Tc.tA (σ:= { s:Nat×List Int//a<=s.1/\s.1<=i/\kA a b l s.2/\∀p q,a<=p->p<q->q<=i->q≠s.1->xA s.2 p<=xA s.2 q }) (fun s=> ([(0,.slice (some ⟨sb,0,none⟩) n cap),(1,.int .i64 (a:Nat)),(2,.int .i64 (b:Nat)),(6,.int .i64 (i:Nat)),(7,.int .i64 (s.1.1:Nat))],[(sb,true,.cells ⟨(nA dec s.1.2)++jj⟩ 9 (0,0))])) (fun s=> s.1.1) ?_
   ⟨(i,m),by simp only;omega,by simp only;omega,g3,fun p q h1 h2 h3 h4=> g4 p q h1 h2 (by simp only at h4;omega)⟩)
  rintro⟨⟨j,u⟩,f1,f2,f3,f4⟩ ih2;simp only at f1 f2 f3 f4;have cN:=f3.len;have vJ:=hE.uD f3;show Tc M St _ _ _ _ [(0,.slice (some ⟨sb,0,none⟩) n cap),(1,.int .i64 (a:Nat)),(2,.int .i64 (b:Nat)),(6,.int .i64 (i:Nat)),(7,.int .i64 (j:Nat))] [(sb,true,.cells ⟨(nA dec u)++jj⟩ 9 (0,0))] _ _;by_cases c2:a<j
  ·have e1:((j:Nat):Int)-1=((j-1:Nat):Int):=by omega
   have k1:=rA (dec:=dec) (m:=u) (j:=jj) (k:=(j:Nat)) (p:=j) rfl oM;have k2:=rA (dec:=dec) (m:=u) (j:=jj) (k:=(j:Nat)-1) (p:=j-1) e1 oM;by_cases c3:xA u j<xA u (j-1)
   ·have s1:=BA (dec:=dec) (m:=u) (j:=jj) (k:=(j:Nat)) (x:=xA u (j-1)) (p:=j) rfl oM;have s2:=BA (dec:=dec) (m:=u.set j (xA u (j-1))) (j:=jj) (k:=(j:Nat)-1) (x:=xA u j) (p:=j-1) e1 (by rw[List.length_set];omega);have l1:=AA (dec:=dec) (m:=u) (j:=jj) (k:=(j:Nat)) (p:=j) rfl oM;have l2:=AA (dec:=dec) (m:=u.set j (xA u (j-1))) (j:=jj) (k:=(j:Nat)-1) (p:=j-1) e1 (by rw[List.length_set];omega);refine U2 ?_;refine Tc.dr [] [] mixed rfl ?_;refine V13 0 ?_;refine .z 13 rfl (qA.tk fun H hs=> aC M H vJ (uA oM) (uA oM) true (decide_eq_true c3)) ?_;refine .nn 14 ?_;refine .dn ?_;refine U4 ?_;refine Tc.dr [15,17] [0] mixed rfl ?_;refine V2 0 ?_;refine .nw 2 ?_;refine .nw 3 ?_;refine .nw 4 ?_;refine V5 5 ?_;refine .nw 10 ?_;refine .nw 11 ?_;refine .nw 12 ?_;refine V2 13 ?_;refine .e 15 0 ?_;refine .nw 16 ?_;refine .e 17 0 ?_;refine .dn ?_;refine U6 ?_;rw[e1];exact Tc.db (ih2 ⟨(j-1,mB u j (j-1)),by simp only;omega,by simp only;omega,f3.trans (kA.swap oM oM oM oM),RO oM f2 f4 c2 c3⟩ (by simp only;omega))
   ·refine U2 ?_;refine Tc.dr [] [] mixed rfl ?_;refine V13 0 ?_;refine .z 13 rfl (qA.tk fun H hs=> aC M H vJ (uA oM) (uA oM) false (decide_eq_false c3)) ?_;refine .nn 14 ?_;refine .dn ?_;refine U8 ?_;exact Tc.db (ih ⟨(i+1,u),by simp only;omega,by simp only;omega,f3,zS f4 c2 c3⟩ (by simp only;omega))
  ·refine U2 ?_;refine Tc.dr [] [] mixed rfl ?_;refine V4 0 ?_;refine .nw 4 ?_;refine .nw 5 ?_;refine .nw 6 ?_;refine .nw 7 ?_;refine .nw 8 ?_;refine .nw 9 ?_;refine .nw 10 ?_;refine .nw 11 ?_;refine .nw 12 ?_;refine .nw 13 ?_;refine .nn 14 ?_;refine .dn ?_;refine U8 ?_;exact Tc.db (ih ⟨(i+1,u),by simp only;omega,by simp only;omega,f3,fun p q h1 h2 h3=> f4 p q h1 h2 oM oM⟩ (by simp only;omega))
 ·refine U9 ?_;refine .ov hK func256 results256 [] ?_;exact fun H' hs=> gB.of hs (i:=0) rfl ⟨rfl,g3,fun p q h1 h2 h3=> g4 p q h1 h2 oM⟩
end
def sA(m:List Int):List Value:=m.map fun x=> .int .i64 x
theorem HA(m:List Int):(sA m).length=m.length:=by simp[sA]
def tD(H:View)(sb:Nat)(j:List Value)(P:Value->List Int->Prop)(v:Value)(H':View):Prop:=
 (∀b x,b≠sb->H b=some x->H' b=some x)/\∃m,P v m/\H' sb=some (true,.cells ⟨(sA m)++j⟩ 3 (0,0))
theorem tD.of {H H':View}{sb:Nat}{j:List Value}{P:Value->List Int->Prop}{v:Value}{L:Bl}{m:List Int}(hs:gA (H.JC sb) L H'){i:Nat}(hi:L[i]? =some (sb,true,.cells ⟨(sA m)++j⟩ 3 (0,0)))(hP:P v m):tD H sb j P v H':=
 ⟨fun b x hb hx=> hs.base b x (by rw[PA hb];exact hx),m,hP,hs.get hi⟩
theorem Or.eT {M:Md prog}{n:Nat}{H₀:View}{R:Rg}{L:Bl}{o:Oper}{K:Rg->Bl->Prop}{cl:Go.Call}{x:Operand}{fv:Value}{az:List Value}{d:Nat}(i:Nat){sb:Nat}{l:List Int}{j:List Value}(P:Value->List Int->Prop)
  (lA:o.op=.call cl) (nB:cl.callee=.value x) (hx:JA R x=some fv) (has:HD R cl.args.toList=some az) (hd:o.dst=some d) (hn:d<n) (hi:L[i]? =some (sb,true,.cells ⟨(sA l)++j⟩ 3 (0,0)))
  (hc:∀H,gA H₀ L H->uB M fv az H (tD H sb j P)) (hk:∀v m,P v m->K ((d,v)::R) (L.set i (sb,true,.cells ⟨(sA m)++j⟩ 3 (0,0)))):Or M n H₀ R L o K:=
 .mO lA nB hx has (Q:=fun H v H'=> tD H sb j P v H') hc fun H v H' hs ⟨h1,m,h2,h3⟩=>
  ⟨_,_,aG hs hi h1 h3,by rw[hd];exact⟨hn,rfl⟩,hk v m h2⟩
theorem eM {m:List Int}{j:List Value}{k:Int}{p:Nat}(hk:k=(p:Nat))(hp:p<m.length):gD false 1 ((sA m)++j) (0+k.toNat*1)=some (.int .i64 (xA m p)):=by
 subst hk;show((sA m)++j)[0+(p:Int).toNat*1]? =_;rw[Nat.zero_add,Nat.mul_one,Int.toNat_natCast,List.getElem?_append_left (by rw[HA];exact hp)];unfold sA xA;rw[List.getElem?_map,List.getElem?_eq_getElem hp];rfl
theorem gM {m:List Int}{j:List Value}{k x:Int}{p:Nat}(hk:k=(p:Nat))(hp:p<m.length):HF ((sA m)++j) (0+k.toNat*1) [.int .i64 (x)]=(sA (m.set p x))++j:=by
 subst hk;rw[Nat.zero_add,Nat.mul_one,Int.toNat_natCast,DJ _ _ _ (by rw[List.length_append,HA];omega),List.set_append_left _ _ (by rw[HA];exact hp)];unfold sA;rw[List.map_set]
theorem fM {m:List Int}{j:List Value}{k:Int}{p:Nat}(hk:k=(p:Nat))(hp:p<m.length):Nat.ble (0+k.toNat*1+1) ((sA m)++j).length=true:=by
 subst hk;rw[Nat.ble_eq,List.length_append,HA,Int.toNat_natCast];omega
section
variable(M:Md prog)(H:View)
theorem LU(s:Int):bA M 310 #[.int .i64 s] H (fun v H'=> H.le H'/\v=.bool false):=by
 refine .en func310 ntmps310 fun St c cs hK=> ?_;refine PE ?_;refine .rt hK func310 results310 [_] ?_;exact okB
theorem VX(a b:Int)(t:Bool)(ht:decide (a<b)=t):bA M 278 #[.int .i64 a,.int .i64 b] H (fun v H'=> H.le H'/\v=.bool t):=by
 rw[<-ht];refine .en func278 ntmps278 fun St c cs hK=> ?_;by_cases c1:a<b
 ·have e:decide (a<b)=true:=decide_eq_true c1;rw[e] at hK;refine U7 ?_;refine .cl (fun H hs=> LU M H a) ?_;refine NF ?_;refine .rt hK func278 results278 [_] ?_;exact okB
 ·have e:decide (a<b)=false:=decide_eq_false c1;rw[e] at hK;refine U7 ?_;refine .cl (fun H hs=> LU M H a) ?_;refine NF ?_;refine .rt hK func278 results278 [_] ?_;exact okB
end
section
variable(M:Md prog)(H:View)
theorem AS(sb:Nat)(l:List Int)(jj:List Value)(n cap a b:Nat)(hn:n=l.length)(hb:b<=n)(wF:n<=1000000)(ha:a<=n)(hS:H sb=some (true,.cells ⟨(sA l)++jj⟩ 3 (0,0))):
  bA M 272 #[.slice (some ⟨sb,0,none⟩) n cap,.int .i64 (a:Nat),.int .i64 (b:Nat)] H (tD H sb jj (fun v m=> v=.tuple ⟨[]⟩/\kA a b l m/\HE a b m)):=by
 refine bA.enter (vs:= [.slice (some ⟨sb,0,none⟩) n cap,.int .i64 (a:Nat),.int .i64 (b:Nat)]) func272 rfl ntmps272 (Nat.le_of_ble_eq_true rfl) (gA.pull hS) fun St c cs hK=> ?_;have ha1:pA .add .i64 (a:Nat) 1=some (.int .i64 ((a+1:Nat):Int)):=by rw[eC oM oM];rfl
 refine U7 ?_;refine Tc.db (Tc.tA (σ:= { s:Nat×List Int//a+1<=s.1/\(s.1<=b\/s.1=a+1)/\kA a b l s.2/\HE a s.1 s.2 }) (fun s=> ([(0,.slice (some ⟨sb,0,none⟩) n cap),(1,.int .i64 (a:Nat)),(2,.int .i64 (b:Nat)),(6,.int .i64 (s.1.1:Nat))],[(sb,true,.cells ⟨(sA s.1.2)++jj⟩ 3 (0,0))])) (fun s=> b-s.1.1) ?_
  ⟨(a+1,l),by simp,by simp,kA.refl ..,fun p q h1 h2 h3=> by omega⟩)
 rintro⟨⟨i,m⟩,g1,g2,g3,g4⟩ ih;simp only at g1 g2 g3 g4;show Tc M St _ _ _ _ [(0,.slice (some ⟨sb,0,none⟩) n cap),(1,.int .i64 (a:Nat)),(2,.int .i64 (b:Nat)),(6,.int .i64 (i:Nat))] [(sb,true,.cells ⟨(sA m)++jj⟩ 3 (0,0))] _ _;by_cases c1:i<b
 ·have GK:=g3.len;have hi1:pA .add .i64 (i:Nat) 1=some (.int .i64 ((i+1:Nat):Int)):=by rw[eC oM oM];rfl
  refine OK ?_;refine Tc.db (Tc.tA (σ:= { s:Nat×List Int//a<=s.1/\s.1<=i/\kA a b l s.2/\∀p q,a<=p->p<q->q<=i->q≠s.1->xA s.2 p<=xA s.2 q }) (fun s=> ([(0,.slice (some ⟨sb,0,none⟩) n cap),(1,.int .i64 (a:Nat)),(2,.int .i64 (b:Nat)),(6,.int .i64 (i:Nat)),(7,.int .i64 (s.1.1:Nat))],[(sb,true,.cells ⟨(sA s.1.2)++jj⟩ 3 (0,0))])) (fun s=> s.1.1) ?_
   ⟨(i,m),by simp only;omega,by simp only;omega,g3,fun p q h1 h2 h3 h4=> g4 p q h1 h2 (by simp only at h4;omega)⟩)
  rintro⟨⟨j,u⟩,f1,f2,f3,f4⟩ ih2;simp only at f1 f2 f3 f4;have cN:=f3.len
   
  show Tc M St _ _ _ _ [(0,.slice (some ⟨sb,0,none⟩) n cap),(1,.int .i64 (a:Nat)),(2,.int .i64 (b:Nat)),(6,.int .i64 (i:Nat)),(7,.int .i64 (j:Nat))] [(sb,true,.cells ⟨(sA u)++jj⟩ 3 (0,0))] _ _;by_cases c2:a<j
  ·have e1:((j:Nat):Int)-1=((j-1:Nat):Int):=by omega
   have k1:=eM (m:=u) (j:=jj) (k:=(j:Nat)) (p:=j) rfl oM;have k2:=eM (m:=u) (j:=jj) (k:=(j:Nat)-1) (p:=j-1) e1 oM;by_cases c3:xA u j<xA u (j-1)
   ·have s1:=gM (m:=u) (j:=jj) (k:=(j:Nat)) (x:=xA u (j-1)) (p:=j) rfl oM;have s2:=gM (m:=u.set j (xA u (j-1))) (j:=jj) (k:=(j:Nat)-1) (x:=xA u j) (p:=j-1) e1 (by rw[List.length_set];omega);have l1:=fM (m:=u) (j:=jj) (k:=(j:Nat)) (p:=j) rfl oM;have l2:=fM (m:=u.set j (xA u (j-1))) (j:=jj) (k:=(j:Nat)-1) (p:=j-1) e1 (by rw[List.length_set];omega);refine U2 ?_;refine Tc.dr [] [] mixed rfl ?_;refine V13 0 ?_;refine .z 13 rfl (qA.tk fun H hs=> VX M H (xA u j) (xA u (j-1)) true (decide_eq_true c3)) ?_;refine .nn 14 ?_;refine .dn ?_;refine U4 ?_;refine Tc.dr [15,17] [0] mixed rfl ?_;refine V2 0 ?_;refine .nw 2 ?_;refine .nw 3 ?_;refine .nw 4 ?_;refine V5 5 ?_;refine .nw 10 ?_;refine .nw 11 ?_;refine .nw 12 ?_;refine V2 13 ?_;refine .e 15 0 ?_;refine .nw 16 ?_;refine .e 17 0 ?_;refine .dn ?_;refine U6 ?_;rw[e1];exact Tc.db (ih2 ⟨(j-1,mB u j (j-1)),by simp only;omega,by simp only;omega,f3.trans (kA.swap oM oM oM oM),RO oM f2 f4 c2 c3⟩ (by simp only;omega))
   ·refine U2 ?_;refine Tc.dr [] [] mixed rfl ?_;refine V13 0 ?_;refine .z 13 rfl (qA.tk fun H hs=> VX M H (xA u j) (xA u (j-1)) false (decide_eq_false c3)) ?_;refine .nn 14 ?_;refine .dn ?_;refine U8 ?_;exact Tc.db (ih ⟨(i+1,u),by simp only;omega,by simp only;omega,f3,zS f4 c2 c3⟩ (by simp only;omega))
  ·refine U2 ?_;refine Tc.dr [] [] mixed rfl ?_;refine V4 0 ?_;refine .nw 4 ?_;refine .nw 5 ?_;refine .nw 6 ?_;refine .nw 7 ?_;refine .nw 8 ?_;refine .nw 9 ?_;refine .nw 10 ?_;refine .nw 11 ?_;refine .nw 12 ?_;refine .nw 13 ?_;refine .nn 14 ?_;refine .dn ?_;refine U8 ?_;exact Tc.db (ih ⟨(i+1,u),by simp only;omega,by simp only;omega,f3,fun p q h1 h2 h3=> f4 p q h1 h2 oM oM⟩ (by simp only;omega))
 ·refine U9 ?_;refine .ov hK func272 results272 [] ?_;exact fun H' hs=> tD.of hs (i:=0) rfl ⟨rfl,g3,fun p q h1 h2 h3=> g4 p q h1 h2 oM⟩
end
end Go.Proofs.YtldmfjcgjdchcaaGreatDoor
namespace Go.RL
open Go.Conc
section
variable {P:Program}{E:Env P}{M:Md P}{n:Nat}{H₀:View}{R:Rg}{L:Bl}{o:Oper}{K:Rg->Bl->Prop}
theorem Or.clear(i:Nat){cl:Go.Call}{x:Operand}{t e e':TypeId}{q cap blk off:Nat}{z:Value}{c c':List Value}{r re:EA}(lA:o.op=.call cl)(nB:cl.callee=.builtin .clear)(vH:cl.argTypes=#[t])(DH:cl.args=#[x])
  (hx:JA R x=some (.slice (some ⟨blk,off,none⟩) q cap)) (ht:E.ty t=some r) (SB:r.ds=.slice e) (kD:E.ty e=some re) (hz:re.zero.cells.toList= [z]) (hz1:single z=true)
  (hi:L[i]? =some (blk,true,.cells ⟨c⟩ e' (0,0))) (hq:q≠0) (hl:off+q<=c.length) (hd:o.dst=none) (hc:HF c off (List.replicate q z)=c')
  (hk:K R (L.set i (blk,true,.cells ⟨c'⟩ e' (0,0)))):Or M n H₀ R L o K:=fun H tmps IB hr=> by
 unfold KE;unfold execOp;rw[lA];simp only[resolve,nB,vH,DH];have SW:Array.map (fC tmps) #[x]=#[.slice (some ⟨blk,off,none⟩) q cap]:=by simp[hr.ev hx]
 rw[SW];obtain⟨q',rfl⟩:∃q',q=q'+1:=⟨q-1,oM⟩
 refine aA (Builtin.clear_ #[t] o.type #[.slice (some ⟨blk,off,none⟩) (q'+1) cap]) _ ?_;show KA P ((underlying t).bind fun _=> _) H _;refine aA (underlying t) _ (fA (MC ((E.ok _ _ ht).ds.trans SB)) ?_);show KA P ((zeroValue e).bind fun z=> (storeCells ⟨blk,off,none⟩ (Builtin.zeroCells z.cells (q'+1)).toList).bind fun _=> Sem.pure (Value.tuple #[])) H _;refine aA (zeroValue e) _ (OB (E.ok _ _ kD).zero ?_);have hzc:(Builtin.zeroCells re.zero.cells (q'+1)).toList=List.replicate (q'+1) z:=by
  have AD:re.zero.cells.size=1:=by
   have:=congrArg List.length hz;simpa using this
  rw[XH,hz,BN,AD,Nat.mul_one]
 rw[hzc];refine aA (storeCells _ _) _ ?_;refine qC blk _ (List.replicate (q'+1) z) 0 c (IB.get hi) (by simp only[List.length_replicate,Nat.add_zero];omega) (by rw[List.all_eq_true];intro y hy;rw[List.eq_of_mem_replicate hy];exact hz1) fun H' GO=> ?_;rw[if_neg (by simp)] at GO;rw[GO];refine⟨R,_,?_,IB.set hi _,?_⟩
 ·rw[hd];exact hr
 ·rw[show HF c (off+0) (List.replicate (q'+1) z)=c' from hc];exact hk
end
end Go.RL
namespace Go.Proofs.YtldmfjcgjdchcaaGreatDoor
open Go.RL Go.Proofs.Tryz
set_option maxRecDepth 10000
set_option maxHeartbeats 8000000
def jB(l:List Int):Nat->List Int
 | 0=> []
 | k+1=> if 1<=k/\xA l k=xA l (k-1) then jB l k else jB l k++[xA l k]
theorem WR(l:List Int):∀k,(jB l k).length<=k
 | 0=> Nat.le_refl _
 | k+1=> by
  have:=WR l k;unfold jB;split
  ·omega
  ·rw[List.length_append,List.length_cons,List.length_nil];omega
theorem PL {l:List Int}{k:Nat}(h:k<l.length):l.take (k+1)=l.take k++[xA l k]:=by
 unfold xA;rw[List.take_succ_eq_append_getElem h,List.getElem?_eq_getElem h];rfl
theorem wN {u:List Int}{w:Nat}{x:Int}(h:w<u.length):(u.set w x).take (w+1)=u.take w++[x]:=by
 rw[List.take_succ_eq_append_getElem (by rw[List.length_set];exact h),List.take_set_of_le (Nat.le_refl _),List.getElem_set_self]
theorem cY {u:List Int}{w p:Nat}{x:Int}(h:w≠p):xA (u.set w x) p=xA u p:=by
 unfold xA;rw[List.getElem?_set_ne h]
theorem oH:∀s:List UInt8,Op.bytesLess s s=false
 | []=> rfl
 | a::t=> by
  show(decide (a<a)||(a==a&&Op.bytesLess t t))=false;rw[oH t];have:¬a<a:=UInt8.lt_irrefl a;simp[this]
theorem DN.inj {dec:Int->List UInt8}{l:List Int}(h:DN dec l){x y:Int}(hx:x∈l)(hy:y∈l)(e:dec x=dec y):x=y:=by
 have h1:=h x hx y hy;have h2:=h y hy x hx;rw[e,oH] at h1;rw[e,oH] at h2;have h3:=of_decide_eq_false h1.symm;have h4:=of_decide_eq_false h2.symm;omega
theorem rJ {dec:Int->List UInt8}{m:List Int}{j:List Value}{k:Int}{o p:Nat}(hk:o+k.toNat*1=p)(hp:p<m.length):gD false 1 ((nA dec m)++j) (o+k.toNat*1)=some (mA (dec (xA m p))):=by
 rw[hk];have:=rA (dec:=dec) (m:=m) (j:=j) (k:=(p:Nat)) (p:=p) rfl hp;rw[Int.toNat_natCast,Nat.zero_add,Nat.mul_one] at this;exact this
def T1(dec:Int->List UInt8)(H:View)(sb:Nat)(l:List Int)(jj:List Value)(n cap:Nat)(v:Value)(H':View):Prop:=
 (∀b x,b≠sb->H b=some x->H' b=some x)/\∃rest,v=.slice (some ⟨sb,0,none⟩) (jB l n).length cap/\(jB l n).length+rest.length=n+jj.length/\H' sb=some (true,.cells ⟨(nA dec (jB l n))++rest⟩ 9 (0,0))
section
variable(M:Md prog)(H:View)
theorem bW(dec:Int->List UInt8)(sb:Nat)(l:List Int)(jj:List Value)(n cap:Nat)(hn:n=l.length)(hE:DN dec l)(wF:n<=100000000)(wB:n<=cap)(hS:H sb=some (true,.cells ⟨(nA dec l)++jj⟩ 9 (0,0))):
  bA M 121 #[.slice (some ⟨sb,0,none⟩) n cap] H (T1 dec H sb l jj n cap):=by
 by_cases c0:n<2
 ·have e:jB l n=l:=by
   rcases(by omega:n=0\/n=1) with h|h
   ·have:l= []:=List.eq_nil_of_length_eq_zero oM;rw[h,this];rfl
   ·rw[h]
    match l,hn.symm.trans h with
    | [x],_=> rfl
  refine bA.enter (vs:= [.slice (some ⟨sb,0,none⟩) n cap]) func121 rfl ntmps121 (Nat.le_of_ble_eq_true rfl) (gA.pull hS) fun St c cs hK=> ?_;refine OK ?_;refine .rt hK func121 results121 [_] ?_;refine fun H' hs=> ⟨fun b x hb hx=> hs.base b x (by rw[PA hb];exact hx),jj,?_,?_,?_⟩
  ·rw[e,<-hn];rfl
  ·rw[e,<-hn]
  ·rw[e];exact hs.get (i:=0) rfl
 ·refine bA.enter (vs:= [.slice (some ⟨sb,0,none⟩) n cap]) func121 rfl ntmps121 (Nat.le_of_ble_eq_true rfl) (gA.pull hS) fun St c cs hK=> ?_;refine YP ?_;refine Tc.db (Tc.tA (σ:= { i:Nat//1<=i/\i<=n/\jB l i=l.take i }) (fun i=> ([(0,.slice (some ⟨sb,0,none⟩) n cap),(3,.int .i64 (i.1:Nat))],[(sb,true,.cells ⟨(nA dec l)++jj⟩ 9 (0,0))])) (fun i=> n-i.1) ?_ ⟨1,Nat.le_refl _,oM,?_⟩)
  ·rintro ⟨i,g1,g2,g3⟩ ih;show Tc M St _ _ _ _ [(0,.slice (some ⟨sb,0,none⟩) n cap),(3,.int .i64 (i:Nat))] [(sb,true,.cells ⟨(nA dec l)++jj⟩ 9 (0,0))] _ _;by_cases c1:i=n
   ·have e:jB l n=l:=by rw[<-c1,g3,c1,hn,List.take_length]
    subst c1;refine XP ?_;refine .rt hK func121 results121 [_] ?_;refine fun H' hs=> ⟨fun b x hb hx=> hs.base b x (by rw[PA hb];exact hx),jj,?_,?_,?_⟩
    ·rw[e,<-hn];rfl
    ·rw[e,<-hn]
    ·rw[e];exact hs.get (i:=0) rfl
   ·have c2 :i<n:=by omega
    have e1:((i:Nat):Int)-1=((i-1:Nat):Int):=by omega
    have k1:=rJ (dec:=dec) (m:=l) (j:=jj) (o:=0) (k:=(i:Nat)) (p:=i) oM oM;have k2:=rJ (dec:=dec) (m:=l) (j:=jj) (o:=0) (k:=(i:Nat)-1) (p:=i-1) oM oM;by_cases c3:xA l i=xA l (i-1)
    ·have c4:RL.fF .eql (dec (xA l i)) (dec (xA l (i-1)))=some (.bool true):=by rw[c3];simp[RL.fF]
     have P9:jB l (i+1)=l.take i:=by rw[jB,if_pos ⟨g1,c3⟩,g3]
     have HB:(l.take i).length=i:=by rw[List.length_take];omega
     refine CG ?_;refine Tc.dr [] [] mixed rfl ?_;refine D1 0 ?_;refine .dn ?_;refine U5 ?_;refine .x (qA.slice (E:=en) (off':=0+((i:Nat):Int).toNat*1) rfl rfl rfl rfl rfl rfl rfl rfl oM oM oM (by rw[if_neg oM] <;> rfl)) ?_;refine U8 ?_;refine Tc.db (Tc.tA (σ:= { s:Nat×Nat×List Int//1<=s.2.1/\s.2.1<=n-i/\s.2.2.length=n/\s.1+1<=i+s.2.1/\s.1=(jB l (i+s.2.1)).length/\s.2.2.take s.1=jB l (i+s.2.1)/\∀p,i+s.2.1<=p+1->xA s.2.2 p=xA l p })
      (fun s=> ([(0,.slice (some ⟨sb,0,none⟩) n cap),(3,.int .i64 (s.1.1:Nat)),(4,.slice (some ⟨sb,0+((i:Nat):Int).toNat*1,none⟩) (((n:Nat):Int).toNat-((i:Nat):Int).toNat) (cap-((i:Nat):Int).toNat)),(5,.int .i64 (s.1.2.1:Nat))],[(sb,true,.cells ⟨(nA dec s.1.2.2)++jj⟩ 9 (0,0))])) (fun s=> n-s.1.2.1) ?_
      ⟨(i,1,l),by simp only;omega,by simp only;omega,hn.symm,by simp only;omega,by simp only;rw[P9,HB],by simp only;rw[P9],fun p _=> rfl⟩)
     rintro⟨⟨v2,k,u⟩,h1,h2,h3,h4,h5,h6,h7⟩ ih2;simp only at h1 h2 h3 h4 h5 h6 h7;show Tc M St _ _ _ _ [(0,.slice (some ⟨sb,0,none⟩) n cap),(3,.int .i64 (v2:Nat)),(4,.slice (some ⟨sb,0+((i:Nat):Int).toNat*1,none⟩) (((n:Nat):Int).toNat-((i:Nat):Int).toNat) (cap-((i:Nat):Int).toNat)),(5,.int .i64 (k:Nat))] [(sb,true,.cells ⟨(nA dec u)++jj⟩ 9 (0,0))] _ _;have FK:((n:Nat):Int).toNat-((i:Nat):Int).toNat=n-i:=by omega
     rw[FK];by_cases d1:k=n-i
     ·have e5:i+k=n:=by omega
      rw[e5] at h5 h6 h4;have cN:u.length=n:=h3;have hq0:((n:Nat):Int).toNat-((v2:Nat):Int).toNat=n-v2:=by omega
      refine QE ?_;refine .x (qA.slice (E:=en) (off':=0+((v2:Nat):Int).toNat*1) rfl rfl rfl rfl rfl rfl rfl rfl oM oM oM (by rw[if_neg oM] <;> rfl)) ?_;refine .e (Or.clear (E:=en) (c':=(nA dec (jB l n))++(List.replicate (n-v2) (mA [])++jj)) 0 rfl rfl rfl rfl rfl rfl rfl rfl rfl rfl rfl oM ?_ rfl ?_ ?_)
      ·rw[List.length_append,MB];omega
      ·show HF ((nA dec u)++jj) (0+((v2:Nat):Int).toNat*1) (List.replicate (((n:Nat):Int).toNat-((v2:Nat):Int).toNat) (mA []))=_;rw[hq0,Nat.zero_add,Int.toNat_natCast,Nat.mul_one];have e6:u=jB l n++u.drop v2:=by rw[<-h6,List.take_append_drop]
       have e7:(nA dec u)=(nA dec (jB l n))++(nA dec (u.drop v2)):=by
        have h:=congrArg (fun x=> (nA dec x)) e6;refine h.trans ?_;show(nA dec (jB l n++u.drop v2))=_;unfold nA;rw[List.map_append]
       have e8:(nA dec (jB l n)).length=v2:=by rw[MB,<-h5]
       have e9:(nA dec (u.drop v2)).length=n-v2:=by rw[MB,List.length_drop,cN]
       rw[e7,List.append_assoc];unfold HF;rw[List.take_left' e8,List.length_replicate,<-List.drop_drop,List.drop_left' e8,List.drop_left' e9];simp only[List.append_assoc]
      ·refine U5 ?_;refine .x (qA.sliceTo (E:=en) (k:=v2) rfl rfl rfl rfl rfl rfl oM oM) ?_;refine U2 ?_;refine .rt hK func121 results121 [_] ?_;refine fun H' hs=> ⟨fun b x hb hx=> hs.base b x (by rw[PA hb];exact hx),List.replicate (n-v2) (mA [])++jj,?_,?_,?_⟩
       ·rw[<-h5];rfl
       ·rw[List.length_append,List.length_replicate];omega
       ·exact hs.get (i:=0) rfl
     ·have d2:i+k<n:=by omega
      have e2:((k:Nat):Int)-1=((k-1:Nat):Int):=by omega
      have k3:=rJ (dec:=dec) (m:=u) (j:=jj) (o:=0+((i:Nat):Int).toNat*1) (k:=(k:Nat)) (p:=i+k) oM oM;have k4:=rJ (dec:=dec) (m:=u) (j:=jj) (o:=0+((i:Nat):Int).toNat*1) (k:=(k:Nat)-1) (p:=i+k-1) oM oM;have a1:=h7 (i+k) oM;have a2:=h7 (i+k-1) oM;by_cases d3:xA l (i+k)=xA l (i+k-1)
      ·have c5:RL.fF .neq (dec (xA u (i+k))) (dec (xA u (i+k-1)))=some (.bool false):=by rw[a1,a2,d3];simp[RL.fF]
       have X4:jB l (i+(k+1))=jB l (i+k):=by show jB l (i+k+1)=_;rw[jB,if_pos ⟨oM,d3⟩]
       refine CG ?_;refine Tc.dr [] [] mixed rfl ?_;refine D1 0 ?_;refine .dn ?_;refine U8 ?_;exact Tc.db (ih2 ⟨(v2,k+1,u),by simp only;omega,by simp only;omega,h3,by simp only;omega,by simp only;rw[X4];exact h5,by simp only;rw[X4];exact h6,fun p hp=> h7 p (by simp only at hp;omega)⟩ (by simp only;omega))
      ·have c5:RL.fF .neq (dec (xA u (i+k))) (dec (xA u (i+k-1)))=some (.bool true):=by rw[a1,a2];have:¬dec (xA l (i+k))=dec (xA l (i+k-1)):=fun h=> d3 (hE.inj (uA oM) (uA oM) h);simp[RL.fF,this]
       have X4:jB l (i+(k+1))=jB l (i+k)++[xA l (i+k)]:=by show jB l (i+k+1)=_;rw[jB,if_neg (fun h=> d3 h.2)]
       have s1:=BA (dec:=dec) (m:=u) (j:=jj) (k:=(v2:Nat)) (x:=xA u (i+k)) (p:=v2) rfl oM;have l1:=AA (dec:=dec) (m:=u) (j:=jj) (k:=(v2:Nat)) (p:=v2) rfl oM;refine CG ?_;refine Tc.dr [] [] mixed rfl ?_;refine D1 0 ?_;refine .dn ?_;refine R8 ?_;exact Tc.db (ih2 ⟨(v2+1,k+1,u.set v2 (xA u (i+k))),by simp only;omega,by simp only;omega,by simp only;rw[List.length_set];exact h3,by simp only;omega,by simp only;rw[X4,List.length_append,<-h5];rfl,by simp only;rw[X4,wN oM,h6,a1],fun p hp=> by simp only at hp ⊢;rw[cY oM];exact h7 p oM⟩ (by simp only;omega))
    ·have c4:RL.fF .eql (dec (xA l i)) (dec (xA l (i-1)))=some (.bool false):=by have:¬dec (xA l i)=dec (xA l (i-1)):=fun h=> c3 (hE.inj (uA oM) (uA oM) h);simp[RL.fF,this]
     refine CG ?_;refine Tc.dr [] [] mixed rfl ?_;refine D1 0 ?_;refine .dn ?_;refine U8 ?_;exact Tc.db (ih ⟨i+1,oM,oM,by rw[jB,if_neg (fun h=> c3 h.2),g3,PL oM]⟩ (by simp only;omega))
  ·rw[PL (l:=l) (k:=0) oM];rfl
end
theorem qJ {m:List Int}{j:List Value}{k:Int}{o p:Nat}(hk:o+k.toNat*1=p)(hp:p<m.length):gD false 1 ((sA m)++j) (o+k.toNat*1)=some (.int .i64 (xA m p)):=by
 rw[hk];have:=eM (m:=m) (j:=j) (k:=(p:Nat)) (p:=p) rfl hp;rw[Int.toNat_natCast,Nat.zero_add,Nat.mul_one] at this;exact this
def S1(H:View)(sb:Nat)(l:List Int)(jj:List Value)(n cap:Nat)(v:Value)(H':View):Prop:=
 (∀b x,b≠sb->H b=some x->H' b=some x)/\∃rest,v=.slice (some ⟨sb,0,none⟩) (jB l n).length cap/\(jB l n).length+rest.length=n+jj.length/\H' sb=some (true,.cells ⟨(sA (jB l n))++rest⟩ 3 (0,0))
section
variable(M:Md prog)(H:View)
theorem aW(sb:Nat)(l:List Int)(jj:List Value)(n cap:Nat)(hn:n=l.length)(wF:n<=1000000)(wB:n<=cap)(hS:H sb=some (true,.cells ⟨(sA l)++jj⟩ 3 (0,0))):
  bA M 136 #[.slice (some ⟨sb,0,none⟩) n cap] H (S1 H sb l jj n cap):=by
 by_cases c0:n<2
 ·have e:jB l n=l:=by
   rcases(by omega:n=0\/n=1) with h|h
   ·have:l= []:=List.eq_nil_of_length_eq_zero oM;rw[h,this];rfl
   ·rw[h]
    match l,hn.symm.trans h with
    | [x],_=> rfl
  refine bA.enter (vs:= [.slice (some ⟨sb,0,none⟩) n cap]) func136 rfl ntmps136 (Nat.le_of_ble_eq_true rfl) (gA.pull hS) fun St c cs hK=> ?_;refine OK ?_;refine .rt hK func136 results136 [_] ?_;refine fun H' hs=> ⟨fun b x hb hx=> hs.base b x (by rw[PA hb];exact hx),jj,?_,?_,?_⟩
  ·rw[e,<-hn];rfl
  ·rw[e,<-hn]
  ·rw[e];exact hs.get (i:=0) rfl
 ·refine bA.enter (vs:= [.slice (some ⟨sb,0,none⟩) n cap]) func136 rfl ntmps136 (Nat.le_of_ble_eq_true rfl) (gA.pull hS) fun St c cs hK=> ?_;refine YP ?_;refine Tc.db (Tc.tA (σ:= { i:Nat//1<=i/\i<=n/\jB l i=l.take i }) (fun i=> ([(0,.slice (some ⟨sb,0,none⟩) n cap),(3,.int .i64 (i.1:Nat))],[(sb,true,.cells ⟨(sA l)++jj⟩ 3 (0,0))])) (fun i=> n-i.1) ?_ ⟨1,Nat.le_refl _,oM,?_⟩)
  ·rintro ⟨i,g1,g2,g3⟩ ih;show Tc M St _ _ _ _ [(0,.slice (some ⟨sb,0,none⟩) n cap),(3,.int .i64 (i:Nat))] [(sb,true,.cells ⟨(sA l)++jj⟩ 3 (0,0))] _ _;by_cases c1:i=n
   ·have e:jB l n=l:=by rw[<-c1,g3,c1,hn,List.take_length]
    subst c1;refine XP ?_;refine .rt hK func136 results136 [_] ?_;refine fun H' hs=> ⟨fun b x hb hx=> hs.base b x (by rw[PA hb];exact hx),jj,?_,?_,?_⟩
    ·rw[e,<-hn];rfl
    ·rw[e,<-hn]
    ·rw[e];exact hs.get (i:=0) rfl
   ·have c2 :i<n:=by omega
    have e1:((i:Nat):Int)-1=((i-1:Nat):Int):=by omega
    have k1:=qJ (m:=l) (j:=jj) (o:=0) (k:=(i:Nat)) (p:=i) oM oM;have k2:=qJ (m:=l) (j:=jj) (o:=0) (k:=(i:Nat)-1) (p:=i-1) oM oM;by_cases c3:xA l i=xA l (i-1)
    ·skip
     have P9:jB l (i+1)=l.take i:=by rw[jB,if_pos ⟨g1,c3⟩,g3]
     have HB:(l.take i).length=i:=by rw[List.length_take];omega
     refine CG ?_;refine Tc.dr [] [] mixed rfl ?_;refine D1 0 ?_;refine .dn ?_;refine U5 ?_;refine .x (qA.slice (E:=en) (off':=0+((i:Nat):Int).toNat*1) rfl rfl rfl rfl rfl rfl rfl rfl oM oM oM (by rw[if_neg oM] <;> rfl)) ?_;refine U8 ?_;refine Tc.db (Tc.tA (σ:= { s:Nat×Nat×List Int//1<=s.2.1/\s.2.1<=n-i/\s.2.2.length=n/\s.1+1<=i+s.2.1/\s.1=(jB l (i+s.2.1)).length/\s.2.2.take s.1=jB l (i+s.2.1)/\∀p,i+s.2.1<=p+1->xA s.2.2 p=xA l p })
      (fun s=> ([(0,.slice (some ⟨sb,0,none⟩) n cap),(3,.int .i64 (s.1.1:Nat)),(4,.slice (some ⟨sb,0+((i:Nat):Int).toNat*1,none⟩) (((n:Nat):Int).toNat-((i:Nat):Int).toNat) (cap-((i:Nat):Int).toNat)),(5,.int .i64 (s.1.2.1:Nat))],[(sb,true,.cells ⟨(sA s.1.2.2)++jj⟩ 3 (0,0))])) (fun s=> n-s.1.2.1) ?_
      ⟨(i,1,l),by simp only;omega,by simp only;omega,hn.symm,by simp only;omega,by simp only;rw[P9,HB],by simp only;rw[P9],fun p _=> rfl⟩)
     rintro⟨⟨v2,k,u⟩,h1,h2,h3,h4,h5,h6,h7⟩ ih2;simp only at h1 h2 h3 h4 h5 h6 h7;show Tc M St _ _ _ _ [(0,.slice (some ⟨sb,0,none⟩) n cap),(3,.int .i64 (v2:Nat)),(4,.slice (some ⟨sb,0+((i:Nat):Int).toNat*1,none⟩) (((n:Nat):Int).toNat-((i:Nat):Int).toNat) (cap-((i:Nat):Int).toNat)),(5,.int .i64 (k:Nat))] [(sb,true,.cells ⟨(sA u)++jj⟩ 3 (0,0))] _ _;have FK:((n:Nat):Int).toNat-((i:Nat):Int).toNat=n-i:=by omega
     rw[FK];by_cases d1:k=n-i
     ·have e5:i+k=n:=by omega
      rw[e5] at h5 h6 h4;have cN:u.length=n:=h3;have hq0:((n:Nat):Int).toNat-((v2:Nat):Int).toNat=n-v2:=by omega
      refine QE ?_;refine .x (qA.slice (E:=en) (off':=0+((v2:Nat):Int).toNat*1) rfl rfl rfl rfl rfl rfl rfl rfl oM oM oM (by rw[if_neg oM] <;> rfl)) ?_;refine .e (Or.clear (E:=en) (c':=(sA (jB l n))++(List.replicate (n-v2) (.int .i64 0)++jj)) 0 rfl rfl rfl rfl rfl rfl rfl rfl rfl rfl rfl oM ?_ rfl ?_ ?_)
      ·rw[List.length_append,HA];omega
      ·show HF ((sA u)++jj) (0+((v2:Nat):Int).toNat*1) (List.replicate (((n:Nat):Int).toNat-((v2:Nat):Int).toNat) (.int .i64 0))=_;rw[hq0,Nat.zero_add,Int.toNat_natCast,Nat.mul_one];have e6:u=jB l n++u.drop v2:=by rw[<-h6,List.take_append_drop]
       have e7:(sA u)=(sA (jB l n))++(sA (u.drop v2)):=by
        have h:=congrArg (fun x=> (sA x)) e6;refine h.trans ?_;show(sA (jB l n++u.drop v2))=_;unfold sA;rw[List.map_append]
       have e8:(sA (jB l n)).length=v2:=by rw[HA,<-h5]
       have e9:(sA (u.drop v2)).length=n-v2:=by rw[HA,List.length_drop,cN]
       rw[e7,List.append_assoc];unfold HF;rw[List.take_left' e8,List.length_replicate,<-List.drop_drop,List.drop_left' e8,List.drop_left' e9];simp only[List.append_assoc]
      ·refine U5 ?_;refine .x (qA.sliceTo (E:=en) (k:=v2) rfl rfl rfl rfl rfl rfl oM oM) ?_;refine U2 ?_;refine .rt hK func136 results136 [_] ?_;refine fun H' hs=> ⟨fun b x hb hx=> hs.base b x (by rw[PA hb];exact hx),List.replicate (n-v2) (.int .i64 0)++jj,?_,?_,?_⟩
       ·rw[<-h5];rfl
       ·rw[List.length_append,List.length_replicate];omega
       ·exact hs.get (i:=0) rfl
     ·have d2:i+k<n:=by omega
      have e2:((k:Nat):Int)-1=((k-1:Nat):Int):=by omega
      have k3:=qJ (m:=u) (j:=jj) (o:=0+((i:Nat):Int).toNat*1) (k:=(k:Nat)) (p:=i+k) oM oM;have k4:=qJ (m:=u) (j:=jj) (o:=0+((i:Nat):Int).toNat*1) (k:=(k:Nat)-1) (p:=i+k-1) oM oM;have a1:=h7 (i+k) oM;have a2:=h7 (i+k-1) oM;by_cases d3:xA l (i+k)=xA l (i+k-1)
      ·have a3:xA u (i+k)=xA u (i+k-1):=by rw[a1,a2,d3]
       have X4:jB l (i+(k+1))=jB l (i+k):=by show jB l (i+k+1)=_;rw[jB,if_pos ⟨oM,d3⟩]
       refine CG ?_;refine Tc.dr [] [] mixed rfl ?_;refine D1 0 ?_;refine .dn ?_;refine U8 ?_;exact Tc.db (ih2 ⟨(v2,k+1,u),by simp only;omega,by simp only;omega,h3,by simp only;omega,by simp only;rw[X4];exact h5,by simp only;rw[X4];exact h6,fun p hp=> h7 p (by simp only at hp;omega)⟩ (by simp only;omega))
      ·have a3:¬xA u (i+k)=xA u (i+k-1):=by rw[a1,a2];exact d3
       have X4:jB l (i+(k+1))=jB l (i+k)++[xA l (i+k)]:=by show jB l (i+k+1)=_;rw[jB,if_neg (fun h=> d3 h.2)]
       have s1:=gM (m:=u) (j:=jj) (k:=(v2:Nat)) (x:=xA u (i+k)) (p:=v2) rfl oM;have l1:=fM (m:=u) (j:=jj) (k:=(v2:Nat)) (p:=v2) rfl oM;refine CG ?_;refine Tc.dr [] [] mixed rfl ?_;refine D1 0 ?_;refine .dn ?_;refine R8 ?_;exact Tc.db (ih2 ⟨(v2+1,k+1,u.set v2 (xA u (i+k))),by simp only;omega,by simp only;omega,by simp only;rw[List.length_set];exact h3,by simp only;omega,by simp only;rw[X4,List.length_append,<-h5];rfl,by simp only;rw[X4,wN oM,h6,a1],fun p hp=> by simp only at hp ⊢;rw[cY oM];exact h7 p oM⟩ (by simp only;omega))
    ·skip
     refine CG ?_;refine Tc.dr [] [] mixed rfl ?_;refine D1 0 ?_;refine .dn ?_;refine U8 ?_;exact Tc.db (ih ⟨i+1,oM,oM,by rw[jB,if_neg (fun h=> c3 h.2),g3,PL oM]⟩ (by simp only;omega))
  ·rw[PL (l:=l) (k:=0) oM];rfl
end
def bl(x:Nat):Nat:=if x=0 then 0 else Nat.log2 x+1
theorem aDV:∀x:Nat,x<64->(UInt8.ofNat (bl x)).toNat=bl x/\bl x<=6/\x<2 ^ bl x/\2 ^ bl x<=2*x+1:=by decide +kernel
theorem aAK:∀x:Nat,x<64->IntKind.u8.wrap (x:Int)=(x:Int):=by decide +kernel
section
variable(M:Md prog)(H:View)
theorem I8(x:Nat)(hx:x<64):bA M 266 #[.int .u64 (x:Nat)] H (fun v H'=> H.le H'/\v=.int .i64 (bl x:Nat)):=by
 obtain⟨b1,b2,_,_⟩:=aDV x hx;have hw:=aAK x hx;have hw2:IntKind.i64.wrap (((UInt8.ofNat (bl x)).toNat:Nat):Int)=((bl x:Nat):Int):=by rw[b1];exact wrap64 oM oM
 have aBJ:pA .add .i64 0 ((bl x:Nat):Int)=some (.int .i64 ((bl x:Nat):Int)):=by rw[eC oM oM,Int.zero_add]
 refine .en func266 ntmps266 fun St c cs hK=> ?_;refine U33 ?_;refine .x (qA.QO (c:=UInt8.ofNat (bl x)) rfl rfl rfl (DF ((en.ok _ _ (show en.ty 9=some _ from rfl)).ds.trans rfl)) oM (by
  rw[Int.toNat_natCast];exact(fun(s:ByteArray) (h:∀y:Nat,y<64->s[y]? =some (UInt8.ofNat (bl y)))=> h x hx) _ (by decide +kernel))) ?_
 refine .x (qA.jY (E:=en) rfl rfl rfl rfl rfl rfl hw2) ?_;refine .i ?_ (z:=aBJ);refine U2 ?_;refine .rt hK func266 results266 [_] ?_;exact okB
theorem UX(x:Nat)(hx:x<64):bA M 197 #[.int .u64 (x:Nat)] H (fun v H'=> H.le H'/\v=.int .i64 (bl x:Nat)):=by
 refine .en func197 ntmps197 fun St c cs hK=> ?_;refine lD ?_;refine .cl (fun H hs=> I8 M H x hx) ?_;refine U2 ?_;refine .rt hK func197 results197 [_] ?_;exact okB
end
theorem qT:∀x:Nat,x<64->IntKind.u64.wrap (x:Int)=(x:Int):=by decide +kernel
section
variable(M:Md prog)(H:View)
theorem aCp(dec:Int->List UInt8)(sb:Nat)(l:List Int)(jj:List Value)(n cap:Nat)(lim:Int)(hn:n=l.length)(hE:DN dec l)(yT:n<=12)(hS:H sb=some (true,.cells ⟨(nA dec l)++jj⟩ 9 (0,0))):
  bA M 196 #[.slice (some ⟨sb,0,none⟩) n cap,.int .i64 0,.int .i64 (n:Nat),.int .i64 lim] H (gB dec H sb jj (fun v m=> v=.tuple ⟨[]⟩/\kA 0 n l m/\HE 0 n m)):=by
 refine bA.enter (vs:= [.slice (some ⟨sb,0,none⟩) n cap,.int .i64 0,.int .i64 (n:Nat),.int .i64 lim]) func196 rfl ntmps196 (Nat.le_of_ble_eq_true rfl) (gA.pull hS) fun St c cs hK=> ?_;refine U7 ?_;refine .done (.block (.loop (.block (.sr ?_))));refine OK ?_;refine .e (Or.BE (dec:=dec) (l:=l) 0 (fun v m=> v=.tuple ⟨[]⟩/\kA 0 n l m/\HE 0 n m) rfl rfl rfl rfl rfl dE rfl (fun H hs=> .h (rL M H dec sb l jj n cap 0 n hn hE oM oM oM (hs.get (i:=0) rfl))) (fun v m hm=> ?_));refine U ?_;obtain⟨rfl,ht,nI⟩:=hm;refine .rt hK func196 results196 [] ?_;exact fun H' hs=> gB.of hs (i:=0) rfl ⟨rfl,ht,nI⟩
theorem O8(dec:Int->List UInt8)(sb:Nat)(l:List Int)(jj:List Value)(n cap:Nat)(hn:n=l.length)(hE:DN dec l)(yT:n<=12)(hS:H sb=some (true,.cells ⟨(nA dec l)++jj⟩ 9 (0,0))):
  bA M 120 #[.slice (some ⟨sb,0,none⟩) n cap] H (gB dec H sb jj (fun v m=> v=.tuple ⟨[]⟩/\kA 0 n l m/\HE 0 n m)):=by
 have hw:=qT n oM;refine bA.enter (vs:= [.slice (some ⟨sb,0,none⟩) n cap]) func120 rfl ntmps120 (Nat.le_of_ble_eq_true rfl) (gA.pull hS) fun St c cs hK=> ?_;refine PE ?_;refine .cl (fun H hs=> UX M H n oM) ?_;refine .e (Or.BE (dec:=dec) (l:=l) 0 (fun v m=> v=.tuple ⟨[]⟩/\kA 0 n l m/\HE 0 n m) rfl rfl rfl rfl rfl dE rfl (fun H hs=> .h (aCp M H dec sb l jj n cap (bl n:Nat) hn hE yT (hs.get (i:=0) rfl))) (fun v m hm=> ?_));refine U ?_;obtain⟨rfl,ht,nI⟩:=hm;refine .ov hK func120 results120 [] ?_;exact fun H' hs=> gB.of hs (i:=0) rfl ⟨rfl,ht,nI⟩
theorem TO(c0:Nat):bA M 256 #[.slice none 0 c0,.int .i64 0,.int .i64 ((0:Nat):Int)] H (fun v H'=> H.le H'/\v=.tuple ⟨[]⟩):=by
 refine .en func256 ntmps256 fun St c cs hK=> ?_;refine U5 ?_;refine .done (.block (.loop (.seq (.sr ?_))));refine U6 ?_;refine .ov hK func256 results256 [] ?_;exact okB
theorem M6(c0:Nat)(lim:Int):bA M 196 #[.slice none 0 c0,.int .i64 0,.int .i64 ((0:Nat):Int),.int .i64 lim] H (fun v H'=> H.le H'/\v=.tuple ⟨[]⟩):=by
 refine .en func196 ntmps196 fun St c cs hK=> ?_;refine U7 ?_;refine .done (.block (.loop (.block (.sr ?_))));refine OK ?_;refine .cl (fun H hs=> TO M H c0) ?_;refine U ?_;refine .rt hK func196 results196 [] ?_;exact okB
theorem tQ(c0:Nat):bA M 120 #[.slice none 0 c0] H (fun v H'=> H.le H'/\v=.tuple ⟨[]⟩):=by
 have hw:=qT 0 oM;refine .en func120 ntmps120 fun St c cs hK=> ?_;refine PE ?_;refine .cl (fun H hs=> UX M H 0 oM) ?_;refine .cl (fun H hs=> M6 M H c0 (bl 0:Nat)) ?_;refine U ?_;refine .ov hK func120 results120 [] ?_;exact okB
theorem zR(c0:Nat):bA M 121 #[.slice none 0 c0] H (fun v H'=> H.le H'/\v=.slice none 0 c0):=by
 refine .en func121 ntmps121 fun St c cs hK=> ?_;refine OK ?_;refine .rt hK func121 results121 [_] ?_;exact okB
end
def Gl.xR(g:Gl 9 1)(m:List Value)(h:m.length=g.n):Gl 9 1:=⟨g.blk,g.n,g.cap,m,g.qB,by rw[h,Nat.mul_one],g.hc,g.hj,g.h0⟩
theorem Or.aFx {dec:Int->List UInt8}{M:Md prog}{n:Nat}{H₀:View}{R:Rg}{L1:Bl}{o:Oper}{K:Rg->Bl->Prop}{cl:Go.Call}{x:Operand}{fv:Value}{d:Nat}(g:Gl 9 1)(u:List Int)(hg:g.l=(nA dec u))(hE:DN dec u)(yT:g.n<=12)
  (lA:o.op=.call cl) (nB:cl.callee=.value x) (hx:JA R x=some fv) (has:HD R cl.args.toList=some [g.val]) (hd:o.dst=some d) (hn:d<n)
  (hc:∀(H:View) (Q:Value->View->Prop),bA M 120 #[g.val] H Q->uB M fv [g.val] H Q)
  (hK:∀(g':Gl 9 1) (m:List Int),g'.val=g.val->g'.n=g.n->g'.blk=g.blk->g'.l=(nA dec m)->kA 0 g.n u m->HE 0 g.n m->K ((d,.tuple ⟨[]⟩)::R) (L1++g'.bl)):Or M n H₀ R (L1++g.bl) o K:=by
 have cN:u.length=g.n:=by have:=g.hl;rw[hg,MB] at this;omega
 cases hb:g.blk with
 | none=>
  have wB:=g.h0 hb;have R9:=g.hc;have h0:g.n=0:=by omega
  have YJ:g.bl= []:=by unfold Gl.bl;rw[hb]
  have hv:g.val=.slice none 0 g.cap:=by unfold Gl.val;rw[hb,h0];rfl
  refine Or.ZA (fun _:Unit=> .tuple ⟨[]⟩) (fun _=> []) (fun _=> True) lA nB hx has hd hn (fun _=> by simp) (fun H hs=> hc H _ ?_) (fun _ _=> ?_)
  ·rw[hv];exact bA.mono (tQ M H g.cap) (fun v H' ⟨h1,h2⟩=> ⟨h1,(),h2,trivial,by simp⟩)
  ·rw[List.append_nil];exact hK g u rfl rfl rfl hg (kA.refl _ _ _) (fun p q h1 h2 h3=> by omega)
 | some b=>
  have YJ:g.bl= [(b,true,.cells ⟨(nA dec u)++g.qB⟩ 9 (0,0))]:=by unfold Gl.bl;rw[hb,hg]
  have hv:g.val=.slice (some ⟨b,0,none⟩) g.n g.cap:=by unfold Gl.val;rw[hb];rfl
  rw[YJ];refine Or.BE (dec:=dec) (l:=u) L1.length (fun v m=> v=.tuple ⟨[]⟩/\kA 0 g.n u m/\HE 0 g.n m) lA nB hx has hd hn (by rw[List.getElem?_append_right (Nat.le_refl _),Nat.sub_self];rfl)
   (fun H hs=> hc H _ ?_) (fun v m ⟨h1,h2,h3⟩=> ?_)
  ·rw[hv];exact O8 M H dec b u g.qB g.n g.cap cN.symm hE yT (hs.get (i:=L1.length) (by rw[List.getElem?_append_right (Nat.le_refl _),Nat.sub_self];rfl))
  ·subst h1;have GK:m.length=g.n:=by rw[h2.len];exact cN
   have:=hK (Gl.xR g (nA dec m) (by rw[MB];exact GK)) m rfl rfl rfl rfl h2 h3;have S4:(Gl.xR g (nA dec m) (by rw[MB];exact GK)).bl= [(b,true,.cells ⟨(nA dec m)++g.qB⟩ 9 (0,0))]:=by
    unfold Gl.bl Gl.xR;simp only[hb]
   rw[S4] at this;rw[List.set_append_right _ _ (Nat.le_refl _),Nat.sub_self];exact this
theorem Or.B9 {dec:Int->List UInt8}{M:Md prog}{n:Nat}{H₀:View}{R:Rg}{L1:Bl}{o:Oper}{K:Rg->Bl->Prop}{cl:Go.Call}{x:Operand}{fv:Value}{d:Nat}(g:Gl 9 1)(u:List Int)(hg:g.l=(nA dec u))(hE:DN dec u)(yT:g.n<=100000000)
  (lA:o.op=.call cl) (nB:cl.callee=.value x) (hx:JA R x=some fv) (has:HD R cl.args.toList=some [g.val]) (hd:o.dst=some d) (hn:d<n)
  (hc:∀(H:View) (Q:Value->View->Prop),bA M 121 #[g.val] H Q->uB M fv [g.val] H Q)
  (hK:∀(g':Gl 9 1),g'.n=(jB u g.n).length->g'.l=(nA dec (jB u g.n))->K ((d,g'.val)::R) (L1++g'.bl)):Or M n H₀ R (L1++g.bl) o K:=by
 have cN:u.length=g.n:=by have:=g.hl;rw[hg,MB] at this;omega
 cases hb:g.blk with
 | none=>
  have wB:=g.h0 hb;have R9:=g.hc;have h0:g.n=0:=by omega
  have YJ:g.bl= []:=by unfold Gl.bl;rw[hb]
  have hv:g.val=.slice none 0 g.cap:=by unfold Gl.val;rw[hb,h0];rfl
  have y8:u= []:=List.eq_nil_of_length_eq_zero oM;refine Or.ZA (fun _:Unit=> g.val) (fun _=> []) (fun _=> True) lA nB hx has hd hn (fun _=> by simp) (fun H hs=> hc H _ ?_) (fun _ _=> ?_)
  ·rw[hv];exact bA.mono (zR M H g.cap) (fun v H' ⟨h1,h2⟩=> ⟨h1,(),h2,trivial,by simp⟩)
  ·rw[List.append_nil];refine hK g (by rw[h0];rfl) ?_;rw[hg,y8,h0];rfl
 | some b=>
  have YJ:g.bl= [(b,true,.cells ⟨(nA dec u)++g.qB⟩ 9 (0,0))]:=by unfold Gl.bl;rw[hb,hg]
  have hv:g.val=.slice (some ⟨b,0,none⟩) g.n g.cap:=by unfold Gl.val;rw[hb];rfl
  rw[YJ];have hi:(L1++[(b,true,Obj.cells ⟨(nA dec u)++g.qB⟩ 9 (0,0))])[L1.length]? =some (b,true,Obj.cells ⟨(nA dec u)++g.qB⟩ 9 (0,0)):=by rw[List.getElem?_append_right (Nat.le_refl _),Nat.sub_self];rfl
  refine .mO lA nB hx has (Q:=fun H v H'=> T1 dec H b u g.qB g.n g.cap v H') (fun H hs=> hc H _ ?_) (fun H v H' hs hq=> ?_)
  ·rw[hv];exact bW M H dec b u g.qB g.n g.cap cN.symm hE yT g.hc (hs.get hi)
  ·obtain⟨h1,rest,h2,h3,h4⟩:=hq;subst h2;have hle:=WR u g.n;have R9:=g.hc;have hgj:=g.hj;refine⟨L1++[(b,true,.cells ⟨(nA dec (jB u g.n))++rest⟩ 9 (0,0))],_,?_,by rw[hd];exact⟨hn,rfl⟩,?_⟩
   ·have:=aG hs hi h1 h4;rw[List.set_append_right _ _ (Nat.le_refl _),Nat.sub_self] at this;exact this
   ·have:=hK ⟨some b,(jB u g.n).length,g.cap,(nA dec (jB u g.n)),rest,by rw[MB,Nat.mul_one],oM,oM,fun h=> by cases h⟩ rfl rfl;exact this
section
variable(M:Md prog)(H:View)
theorem aCo(sb:Nat)(l:List Int)(jj:List Value)(n cap:Nat)(lim:Int)(hn:n=l.length)(yT:n<=12)(hS:H sb=some (true,.cells ⟨(sA l)++jj⟩ 3 (0,0))):
  bA M 222 #[.slice (some ⟨sb,0,none⟩) n cap,.int .i64 0,.int .i64 (n:Nat),.int .i64 lim] H (tD H sb jj (fun v m=> v=.tuple ⟨[]⟩/\kA 0 n l m/\HE 0 n m)):=by
 refine bA.enter (vs:= [.slice (some ⟨sb,0,none⟩) n cap,.int .i64 0,.int .i64 (n:Nat),.int .i64 lim]) func222 rfl ntmps222 (Nat.le_of_ble_eq_true rfl) (gA.pull hS) fun St c cs hK=> ?_;refine U7 ?_;refine .done (.block (.loop (.block (.sr ?_))));refine OK ?_;refine .e (Or.eT (l:=l) 0 (fun v m=> v=.tuple ⟨[]⟩/\kA 0 n l m/\HE 0 n m) rfl rfl rfl rfl rfl dE rfl (fun H hs=> .h (AS M H sb l jj n cap 0 n hn oM oM oM (hs.get (i:=0) rfl))) (fun v m hm=> ?_));refine U ?_;obtain⟨rfl,ht,nI⟩:=hm;refine .rt hK func222 results222 [] ?_;exact fun H' hs=> tD.of hs (i:=0) rfl ⟨rfl,ht,nI⟩
theorem N8(sb:Nat)(l:List Int)(jj:List Value)(n cap:Nat)(hn:n=l.length)(yT:n<=12)(hS:H sb=some (true,.cells ⟨(sA l)++jj⟩ 3 (0,0))):
  bA M 135 #[.slice (some ⟨sb,0,none⟩) n cap] H (tD H sb jj (fun v m=> v=.tuple ⟨[]⟩/\kA 0 n l m/\HE 0 n m)):=by
 have hw:=qT n oM;refine bA.enter (vs:= [.slice (some ⟨sb,0,none⟩) n cap]) func135 rfl ntmps135 (Nat.le_of_ble_eq_true rfl) (gA.pull hS) fun St c cs hK=> ?_;refine PE ?_;refine .cl (fun H hs=> UX M H n oM) ?_;refine .e (Or.eT (l:=l) 0 (fun v m=> v=.tuple ⟨[]⟩/\kA 0 n l m/\HE 0 n m) rfl rfl rfl rfl rfl dE rfl (fun H hs=> .h (aCo M H sb l jj n cap (bl n:Nat) hn yT (hs.get (i:=0) rfl))) (fun v m hm=> ?_));refine U ?_;obtain⟨rfl,ht,nI⟩:=hm;refine .ov hK func135 results135 [] ?_;exact fun H' hs=> tD.of hs (i:=0) rfl ⟨rfl,ht,nI⟩
theorem SO(c0:Nat):bA M 272 #[.slice none 0 c0,.int .i64 0,.int .i64 ((0:Nat):Int)] H (fun v H'=> H.le H'/\v=.tuple ⟨[]⟩):=by
 refine .en func272 ntmps272 fun St c cs hK=> ?_;refine U5 ?_;refine .done (.block (.loop (.seq (.sr ?_))));refine U6 ?_;refine .ov hK func272 results272 [] ?_;exact okB
theorem L6(c0:Nat)(lim:Int):bA M 222 #[.slice none 0 c0,.int .i64 0,.int .i64 ((0:Nat):Int),.int .i64 lim] H (fun v H'=> H.le H'/\v=.tuple ⟨[]⟩):=by
 refine .en func222 ntmps222 fun St c cs hK=> ?_;refine U7 ?_;refine .done (.block (.loop (.block (.sr ?_))));refine OK ?_;refine .cl (fun H hs=> SO M H c0) ?_;refine U ?_;refine .rt hK func222 results222 [] ?_;exact okB
theorem fZ(c0:Nat):bA M 135 #[.slice none 0 c0] H (fun v H'=> H.le H'/\v=.tuple ⟨[]⟩):=by
 have hw:=qT 0 oM;refine .en func135 ntmps135 fun St c cs hK=> ?_;refine PE ?_;refine .cl (fun H hs=> UX M H 0 oM) ?_;refine .cl (fun H hs=> L6 M H c0 (bl 0:Nat)) ?_;refine U ?_;refine .ov hK func135 results135 [] ?_;exact okB
theorem yR(c0:Nat):bA M 136 #[.slice none 0 c0] H (fun v H'=> H.le H'/\v=.slice none 0 c0):=by
 refine .en func136 ntmps136 fun St c cs hK=> ?_;refine OK ?_;refine .rt hK func136 results136 [_] ?_;exact okB
end
def Gl.X7(g:Gl 3 1)(m:List Value)(h:m.length=g.n):Gl 3 1:=⟨g.blk,g.n,g.cap,m,g.qB,by rw[h,Nat.mul_one],g.hc,g.hj,g.h0⟩
theorem Or.aAB {M:Md prog}{n:Nat}{H₀:View}{R:Rg}{L1:Bl}{o:Oper}{K:Rg->Bl->Prop}{cl:Go.Call}{x:Operand}{fv:Value}{d:Nat}(g:Gl 3 1)(u:List Int)(hg:g.l=(sA u))(yT:g.n<=12)
  (lA:o.op=.call cl) (nB:cl.callee=.value x) (hx:JA R x=some fv) (has:HD R cl.args.toList=some [g.val]) (hd:o.dst=some d) (hn:d<n)
  (hc:∀(H:View) (Q:Value->View->Prop),bA M 135 #[g.val] H Q->uB M fv [g.val] H Q)
  (hK:∀(g':Gl 3 1) (m:List Int),g'.val=g.val->g'.n=g.n->g'.blk=g.blk->g'.l=(sA m)->kA 0 g.n u m->HE 0 g.n m->K ((d,.tuple ⟨[]⟩)::R) (L1++g'.bl)):Or M n H₀ R (L1++g.bl) o K:=by
 have cN:u.length=g.n:=by have:=g.hl;rw[hg,HA] at this;omega
 cases hb:g.blk with
 | none=>
  have wB:=g.h0 hb;have R9:=g.hc;have h0:g.n=0:=by omega
  have YJ:g.bl= []:=by unfold Gl.bl;rw[hb]
  have hv:g.val=.slice none 0 g.cap:=by unfold Gl.val;rw[hb,h0];rfl
  refine Or.ZA (fun _:Unit=> .tuple ⟨[]⟩) (fun _=> []) (fun _=> True) lA nB hx has hd hn (fun _=> by simp) (fun H hs=> hc H _ ?_) (fun _ _=> ?_)
  ·rw[hv];exact bA.mono (fZ M H g.cap) (fun v H' ⟨h1,h2⟩=> ⟨h1,(),h2,trivial,by simp⟩)
  ·rw[List.append_nil];exact hK g u rfl rfl rfl hg (kA.refl _ _ _) (fun p q h1 h2 h3=> by omega)
 | some b=>
  have YJ:g.bl= [(b,true,.cells ⟨(sA u)++g.qB⟩ 3 (0,0))]:=by unfold Gl.bl;rw[hb,hg]
  have hv:g.val=.slice (some ⟨b,0,none⟩) g.n g.cap:=by unfold Gl.val;rw[hb];rfl
  rw[YJ];refine Or.eT (l:=u) L1.length (fun v m=> v=.tuple ⟨[]⟩/\kA 0 g.n u m/\HE 0 g.n m) lA nB hx has hd hn (by rw[List.getElem?_append_right (Nat.le_refl _),Nat.sub_self];rfl)
   (fun H hs=> hc H _ ?_) (fun v m ⟨h1,h2,h3⟩=> ?_)
  ·rw[hv];exact N8 M H b u g.qB g.n g.cap cN.symm yT (hs.get (i:=L1.length) (by rw[List.getElem?_append_right (Nat.le_refl _),Nat.sub_self];rfl))
  ·subst h1;have GK:m.length=g.n:=by rw[h2.len];exact cN
   have:=hK (Gl.X7 g (sA m) (by rw[HA];exact GK)) m rfl rfl rfl rfl h2 h3;have S4:(Gl.X7 g (sA m) (by rw[HA];exact GK)).bl= [(b,true,.cells ⟨(sA m)++g.qB⟩ 3 (0,0))]:=by
    unfold Gl.bl Gl.X7;simp only[hb]
   rw[S4] at this;rw[List.set_append_right _ _ (Nat.le_refl _),Nat.sub_self];exact this
theorem Or.A9 {M:Md prog}{n:Nat}{H₀:View}{R:Rg}{L1:Bl}{o:Oper}{K:Rg->Bl->Prop}{cl:Go.Call}{x:Operand}{fv:Value}{d:Nat}(g:Gl 3 1)(u:List Int)(hg:g.l=(sA u))(yT:g.n<=1000000)
  (lA:o.op=.call cl) (nB:cl.callee=.value x) (hx:JA R x=some fv) (has:HD R cl.args.toList=some [g.val]) (hd:o.dst=some d) (hn:d<n)
  (hc:∀(H:View) (Q:Value->View->Prop),bA M 136 #[g.val] H Q->uB M fv [g.val] H Q)
  (hK:∀(g':Gl 3 1),g'.n=(jB u g.n).length->g'.l=(sA (jB u g.n))->K ((d,g'.val)::R) (L1++g'.bl)):Or M n H₀ R (L1++g.bl) o K:=by
 have cN:u.length=g.n:=by have:=g.hl;rw[hg,HA] at this;omega
 cases hb:g.blk with
 | none=>
  have wB:=g.h0 hb;have R9:=g.hc;have h0:g.n=0:=by omega
  have YJ:g.bl= []:=by unfold Gl.bl;rw[hb]
  have hv:g.val=.slice none 0 g.cap:=by unfold Gl.val;rw[hb,h0];rfl
  have y8:u= []:=List.eq_nil_of_length_eq_zero oM;refine Or.ZA (fun _:Unit=> g.val) (fun _=> []) (fun _=> True) lA nB hx has hd hn (fun _=> by simp) (fun H hs=> hc H _ ?_) (fun _ _=> ?_)
  ·rw[hv];exact bA.mono (yR M H g.cap) (fun v H' ⟨h1,h2⟩=> ⟨h1,(),h2,trivial,by simp⟩)
  ·rw[List.append_nil];refine hK g (by rw[h0];rfl) ?_;rw[hg,y8,h0];rfl
 | some b=>
  have YJ:g.bl= [(b,true,.cells ⟨(sA u)++g.qB⟩ 3 (0,0))]:=by unfold Gl.bl;rw[hb,hg]
  have hv:g.val=.slice (some ⟨b,0,none⟩) g.n g.cap:=by unfold Gl.val;rw[hb];rfl
  rw[YJ];have hi:(L1++[(b,true,Obj.cells ⟨(sA u)++g.qB⟩ 3 (0,0))])[L1.length]? =some (b,true,Obj.cells ⟨(sA u)++g.qB⟩ 3 (0,0)):=by rw[List.getElem?_append_right (Nat.le_refl _),Nat.sub_self];rfl
  refine .mO lA nB hx has (Q:=fun H v H'=> S1 H b u g.qB g.n g.cap v H') (fun H hs=> hc H _ ?_) (fun H v H' hs hq=> ?_)
  ·rw[hv];exact aW M H b u g.qB g.n g.cap cN.symm yT g.hc (hs.get hi)
  ·obtain⟨h1,rest,h2,h3,h4⟩:=hq;subst h2;have hle:=WR u g.n;have R9:=g.hc;have hgj:=g.hj;refine⟨L1++[(b,true,.cells ⟨(sA (jB u g.n))++rest⟩ 3 (0,0))],_,?_,by rw[hd];exact⟨hn,rfl⟩,?_⟩
   ·have:=aG hs hi h1 h4;rw[List.set_append_right _ _ (Nat.le_refl _),Nat.sub_self] at this;exact this
   ·have:=hK ⟨some b,(jB u g.n).length,g.cap,(sA (jB u g.n)),rest,by rw[HA,Nat.mul_one],oM,oM,fun h=> by cases h⟩ rfl rfl;exact this
set_option maxHeartbeats 16000000
def Bk.dI(k:Bk)(line:Nat)(s:List UInt8):Option Int:=match k.line s with
 | some j=> if j=line then none else some (j:Nat)
 | none=> none
def Bk.LO(k:Bk)(line:Nat):List Int:=(YG (k.num line)).filterMap (k.dI line)
def aDC(g:Gl 3 1)(a:Int):Value:=.tuple ⟨[g.val,.int .i64 a]⟩
theorem Bk.tL {k:Bk}(ha:k.WA=0){i:Nat}(hi:i<k.nl):(k.num i).all BD=true/\1<=(k.num i).length/\(k.num i).length<=3:=by
 obtain⟨_,_,h,_⟩:=Bk.IS ha hi;unfold isNum at h;simp only[Bool.and_eq_true,decide_eq_true_eq] at h;exact⟨h.2,h.1.1,h.1.2⟩
theorem cK(s:List UInt8):∀m i,s.length-i=m->(lC s i).length<=2*m
 | 0,i,h=> by rw[dK oM];exact Nat.le_refl _
 | m + 1,i,h=> by
  rw[ZI oM,List.length_append];have h1:=cK s m (i+1) oM;have h2:(SH s i).length<=2:=by
   unfold SH YI;rw[List.length_append];split <;> split <;> simp
  omega
theorem Bk.o5 {k:Bk}(ha:k.WA=0){i:Nat}(hi:i<k.nl):(k.LO i).length<=6:=by
 obtain⟨_,_,h⟩:=Bk.tL ha hi;have h1:=cK (k.num i) _ 0 rfl;have h2:(k.LO i).length<=(YG (k.num i)).length:=List.length_filterMap_le _ _;unfold YG at h2;omega
section
variable(M:Md prog)(H:View)
theorem L8(k:Bk)(A:Option Addr)(lc:Nat)(B:Option Addr)(tc:Nat)(hk:LF H k A lc B tc)(hn:k.small)(hG:aE H)(ha:k.WA=0)(line:Nat)(hl:line<k.nl):
  bA M 55 #[k.val A lc B tc,.int .i64 (line:Nat)] H (fun v H'=> H.le H'/\∃(g:Gl 3 1) (m:List Int),v=aDC g 0/\(kA 0 (k.LO line).length (k.LO line) m/\HE 0 (k.LO line).length m)/\(g.n=(jB m m.length).length/\g.l=sA (jB m m.length))/\∀x∈g.bl,H' x.1=some x.2/\H x.1=none):=by
 obtain⟨KW,hl1,sS⟩:=Bk.tL ha hl;have RQ:=hn.nl;have hhl:=Bk.o5 ha hl;have hb:=fun(H':View)=> zA M H' ((line:Nat):Int) 0 ((k.nl:Int)-1) true (decide_eq_true oM);have lA:=fun(H':View) (h':H.le H')=> vC M H' k A lc B tc (hk.le h') hn (IA hG h') ha;have vU:=hk.rows;obtain⟨_,h0|⟨ab,ao,fa,gs,gt,gz,rfl,OQ,ZW⟩⟩:=vU
 ·omega
 obtain⟨F,fc,f1,_,_⟩:=ZW line hl;have f2:gD false 1 gs (ao+((line:Nat):Int).toNat*3+1)=some (mA (k.num line)):=mG f1 dE;refine .en func55 ntmps55 fun St c cs hK=> ?_;refine U2 ?_;refine .bo fun b2=> ?_;refine .bo fun b3=> ?_;refine U4 ?_;refine Tc.dr [12] [] mixed rfl ?_;refine V6 0 ?_;refine .z 6 rfl (qA.tk fun H hs=> hb H) ?_;refine .z 7 rfl (qA.tk fun H hs=> lA H hs.base) ?_;refine V2 8 ?_;refine .nw 10 ?_;refine .ea 11 rfl (.al (zz:=fun b6=> ⟨S2.mk sL (.inr sL),?_⟩));refine .e 12 0 ?_;refine .nw 13 ?_;refine .dn ?_;refine lD ?_;refine .al fun b8=> ?_;refine lD ?_;refine To.vB rfl rfl rfl rfl rfl rfl dE (uB.h (dT M H (k.num line))) (fun v H₁ hv=> ?_);obtain⟨TE,sb,rfl,wB⟩:=hv;refine U ?_;have dI:=fun(H':View) (hc:XF (k.num line) sb H')=> AP M H' (k.num line) KW oM sb hc;refine U ?_;refine Tc.db (R':= [(2,.pointer (some ⟨b2,0,none⟩)),(3,.pointer (some ⟨b3,0,none⟩)),(6,.pointer (some ⟨b6,0,none⟩)),(8,.pointer (some ⟨b8,0,none⟩)),(31,AV sb)]) (L':= [(b8,true,.cells ⟨[(Gl.nil 3 1).val]⟩ 24 (0,0)),(b6,true,.cells ⟨(k.val (some ⟨ab,ao,none⟩) lc B tc).cells.toList⟩ 166 (0,0)),(b3,true,.cells ⟨[.int .i64 (line:Nat)]⟩ 3 (0,0)),(b2,true,.cells ⟨(k.val (some ⟨ab,ao,none⟩) lc B tc).cells.toList⟩ 45 (0,0))]) ?_;refine Tc.zK (A:= []) (ts:= [32]) (xs:=YG (k.num line)) (fun rest H₄ L₄=> ∃(g:Gl 3 1) (dn:List Int),L₄= [(b8,true,.cells ⟨[g.val]⟩ 24 (0,0)),(b6,true,.cells ⟨(k.val (some ⟨ab,ao,none⟩) lc B tc).cells.toList⟩ 166 (0,0)),(b3,true,.cells ⟨[.int .i64 (line:Nat)]⟩ 3 (0,0)),(b2,true,.cells ⟨(k.val (some ⟨ab,ao,none⟩) lc B tc).cells.toList⟩ 45 (0,0))]++g.bl
   /\g.l=sA dn/\dn++rest.filterMap (k.dI line)=k.LO line/\XF (k.num line) sb H₄/\H₁.le H₄) (fun _ _ _=> False) rfl rfl rfl rfl dI (fun _ _=> XF.le _ _) (fun _ _ _ ⟨_,_,_,_,_,h,_⟩=> h) rfl (fun _ _=> rfl)
   ⟨Gl.nil 3 1,[],rfl,rfl,rfl,wB,View.le_refl _⟩ ?_ ?_ (fun _ _ _ _ h=> h.elim)
 ·rintro r x rest _ l tmps asg bdy H₄ _ hx ⟨g,dn,rfl,q1,q2,q3,q4⟩ Q St1 cc1 cs1 ZM q q';have qK:=fun(H':View) (h':H₄.le H')=> cP M H' k (some ⟨ab,ao,none⟩) lc B tc (hk.rows.le (View.le_trans TE (View.le_trans q4 h'))) hn.nl x;have nL:g.n=dn.length:=by have:=g.hl;rw[q1,HA] at this;omega
  have PQ:dn.length<=6:=by
   have:=congrArg List.length q2;rw[List.length_append] at this;omega
  cases hlx:k.line x with
  | none=>
   rw[hlx] at qK;have e2:iB none= -1:=rfl;rw[e2] at qK;have e3:k.dI line x=none:=by unfold Bk.dI;rw[hlx]
   rw[List.filterMap_cons_none e3] at q2;refine U3 ?_;refine Tc.beginRound (i:=0) rfl rfl rfl ?_;refine U5 ?_;refine .cl (fun H hs=> qK H hs.base) ?_;refine XP ?_;refine Tc.GA ZM (i:=0) rfl (.inl ⟨rfl,rfl⟩) (fun H' hs=> q H' H₄ _ hs ⟨g,dn,rfl,q1,q2,q3,q4⟩)
  | some j=>
   rw[hlx] at qK;have e2:iB (some j)=(j:Nat):=rfl;rw[e2] at qK;by_cases c1:j=line
   ·have e3:k.dI line x=none:=by unfold Bk.dI;rw[hlx];exact if_pos c1
    rw[List.filterMap_cons_none e3] at q2;refine U3 ?_;refine Tc.beginRound (i:=0) rfl rfl rfl ?_;refine U5 ?_;refine .cl (fun H hs=> qK H hs.base) ?_;refine XP ?_;refine Tc.GA ZM (i:=0) rfl (.inl ⟨rfl,rfl⟩) (fun H' hs=> q H' H₄ _ hs ⟨g,dn,rfl,q1,q2,q3,q4⟩)
   ·have e3:k.dI line x=some (j:Nat):=by unfold Bk.dI;rw[hlx];exact if_neg c1
    rw[List.filterMap_cons_some e3] at q2;refine U3 ?_;refine Tc.beginRound (i:=0) rfl rfl rfl ?_;refine U5 ?_;refine .cl (fun H hs=> qK H hs.base) ?_;refine vQ ?_;refine .e (.bs (zz:=fun bs=> ?_));refine .e (Or.append (E:=en) 7 rfl rfl rfl rfl rfl rfl rfl rfl rfl rfl rfl rfl rfl rfl rfl (fun H hs=> OA.of (hs.get (i:=0) rfl) (Nat.le_of_ble_eq_true rfl)) rfl oM rfl dE (fun g' TW TP=> ?_));refine U3 ?_;refine Tc.GA ZM (i:=1) rfl (.inl ⟨rfl,rfl⟩) (fun H' hs=> q H' H₄ _ (hs.less sL) ⟨g',dn++[((j:Nat):Int)],rfl,by rw[TP,q1];unfold sA;rw[List.map_append];rfl,by rw[List.append_assoc];exact q2,q3,q4⟩)
 ·rintro r H₄ _ ⟨g,dn,rfl,q1,q2,q3,q4⟩;have q5:dn=k.LO line:=by rw[<-q2];simp
  subst q5;have nL:g.n=(k.LO line).length:=by have:=g.hl;rw[q1,HA] at this;omega
  refine U4 ?_;refine .e (Or.aAB (L1:= [(r,true,.deferred (some [])),(b8,true,.cells ⟨[g.val]⟩ 24 (0,0)),(b6,true,.cells ⟨(k.val (some ⟨ab,ao,none⟩) lc B tc).cells.toList⟩ 166 (0,0)),(b3,true,.cells ⟨[.int .i64 (line:Nat)]⟩ 3 (0,0)),(b2,true,.cells ⟨(k.val (some ⟨ab,ao,none⟩) lc B tc).cells.toList⟩ 45 (0,0))]) g (k.LO line) q1 oM rfl rfl rfl rfl rfl dE (fun H Q h=> .h h) (fun g' m A8 rM JO J1 ht hs'=> ?_));rw[<-A8];rw[nL] at ht hs' rM;have GK:m.length=(k.LO line).length:=ht.len;refine U4 ?_;refine .e (Or.A9 (L1:= [(r,true,.deferred (some [])),(b8,true,.cells ⟨[g'.val]⟩ 24 (0,0)),(b6,true,.cells ⟨(k.val (some ⟨ab,ao,none⟩) lc B tc).cells.toList⟩ 166 (0,0)),(b3,true,.cells ⟨[.int .i64 (line:Nat)]⟩ 3 (0,0)),(b2,true,.cells ⟨(k.val (some ⟨ab,ao,none⟩) lc B tc).cells.toList⟩ 45 (0,0))]) g' m J1 oM rfl rfl rfl rfl rfl dE (fun H Q h=> .h h) (fun g2 C5 sS=> ?_));rw[rM,<-GK] at C5 sS;refine U3 ?_;refine Tc.aT (E:=en) (i:=0) hK func55 results55 (vs:= [_,_]) rfl ⟨rfl,rfl,trivial⟩ ?_;exact fun H' hs=> ⟨View.le_trans TE (View.le_trans q4 hs.base),g2,m,rfl,⟨ht,hs'⟩,⟨C5,sS⟩,fun x hx=> ⟨hs.at_ x (by simp[hx]),none_le (View.le_trans TE q4) (hs.out x (by simp[hx]))⟩⟩
end
def Bk.QY(k:Bk)(s:List UInt8):Bool:=(YG s).all fun x=> (k.line x).isNone
def Bk.bT(k:Bk)(s:List UInt8)(i:Nat):Bool:=(YG (k.num i)).all fun x=> !pB x s
def Bk.safe(k:Bk)(s:List UInt8):Bool:=k.QY s&&bG (k.bT s) k.nl
def AB(s:List UInt8):Nat:=(s.map pn).sum
theorem FJ(s:List UInt8)(h:s.all BD=true):AB s<=10*s.length:=by
 induction s with
 | nil=> exact Nat.le_refl _
 | cons x t ih=>
  rw[List.all_cons,Bool.and_eq_true] at h;have h1:=ih h.2;have h2:=oP h.1;unfold AB at h1 ⊢;rw[List.map_cons,List.sum_cons,List.length_cons];omega
theorem O0 {s:List UInt8}{p:Nat}{x:UInt8}(h:s[p]? =some x):AB (s.take (p+1))=AB (s.take p)+pn x:=by
 obtain⟨hp,rfl⟩:=List.getElem?_eq_some_iff.1 h;unfold AB;rw[List.take_succ_eq_append_getElem hp,List.map_append,List.sum_append];rfl
section
variable(M:Md prog)(H:View)
theorem j7(k:Bk)(A:Option Addr)(lc:Nat)(B:Option Addr)(tc:Nat)(hk:LF H k A lc B tc)(hn:k.small)(ha:k.WA=0)(s:List UInt8)(GH:s.all BD=true)(OO:s.length<=1000):
  bA M 138 #[k.val A lc B tc,mA s] H (fun v H'=> H.le H'/\v=.bool (k.safe s)):=by
 have RQ:=hn.nl;refine .en func138 ntmps138 fun St c cs hK=> ?_;refine U2 ?_;refine .bo fun b2=> ?_;refine .bo fun b3=> ?_;refine .al fun b4=> ?_;refine U5 ?_;refine To.vB rfl rfl rfl rfl rfl rfl dE (uB.h (dT M H s)) (fun v H₁ hv=> ?_);obtain⟨TE,sb,rfl,wB⟩:=hv;refine U ?_;have dI:=fun(H':View) (hc:XF s sb H')=> AP M H' s GH OO sb hc;refine U ?_;refine Tc.db (R':= [(2,.pointer (some ⟨b2,0,none⟩)),(3,.pointer (some ⟨b3,0,none⟩)),(4,.pointer (some ⟨b4,0,none⟩)),(10,AV sb)]) (L':= [(b4,true,.cells ⟨[.bool false]⟩ 4 (0,0)),(b3,true,.cells ⟨[mA s]⟩ 9 (0,0)),(b2,true,.cells ⟨(k.val A lc B tc).cells.toList⟩ 166 (0,0))]) ?_;refine Tc.XS (A:= []) (ts:= [11]) (xs:=YG s) (fun rest H₄=> k.QY s=rest.all (fun x=> (k.line x).isNone)/\XF s sb H₄/\H₁.le H₄) (fun j H₄=> j=.ret/\k.QY s=false/\H₁.le H₄) rfl rfl rfl rfl dI (fun _ _=> XF.le _ _) (fun _ _ ⟨_,h,_⟩=> h) rfl (fun _ _=> rfl)
   ⟨rfl,wB,View.le_refl _⟩ ?_ ?_ ?_
 ·rintro r x rest _ l tmps asg bdy H₄ _ hx ⟨rfl,q2,q3,q4⟩ Q St1 cc1 cs1 ZM q q';have qK:=fun(H':View) (h':H₄.le H')=> cP M H' k A lc B tc (hk.rows.le (View.le_trans TE (View.le_trans q4 h'))) hn.nl x;rw[List.all_cons] at q2;cases hlx:k.line x with
  | none=>
   rw[hlx] at qK q2;have e2:iB none= -1:=rfl;rw[e2] at qK;refine U3 ?_;refine Tc.beginRound (i:=0) rfl rfl rfl ?_;refine U5 ?_;refine .cl (fun H hs=> qK H hs.base) ?_;refine U5 ?_;refine Tc.GA ZM (i:=0) rfl (.inl ⟨rfl,rfl⟩) (fun H' hs=> q H' H₄ _ hs ⟨rfl,q2,q3,q4⟩)
  | some j=>
   rw[hlx] at qK q2;have e2:iB (some j)=(j:Nat):=rfl;rw[e2] at qK;refine U3 ?_;refine Tc.beginRound (i:=0) rfl rfl rfl ?_;refine U5 ?_;refine .cl (fun H hs=> qK H hs.base) ?_;refine U7 ?_;refine Tc.GA ZM (i:=0) rfl (.inr (.inl ⟨_,rfl,rfl⟩)) (fun H' hs=> q' H' H₄ _ _ hs ⟨rfl,rfl,q2,q4⟩)
 ·rintro r H₄ ⟨q2,q3,q4⟩;have X9:=View.le_trans TE q4;have q5:k.QY s=true:=q2;refine Tc.marked (L:= [(b4,true,.cells ⟨[.bool false]⟩ 4 (0,0)),(b3,true,.cells ⟨[mA s]⟩ 9 (0,0)),(b2,true,.cells ⟨(k.val A lc B tc).cells.toList⟩ 166 (0,0))]) (rs:= []) ?_;refine PE ?_;refine Tc.db (Tc.lX (σ:= { y:View×Nat×List Nat//H.le y.1/\y.2.1<=k.nl/\∀i,i<y.2.1->k.bT s i=true })
   (fun y=> (y.1.1,[(2,.pointer (some ⟨b2,0,none⟩)),(3,.pointer (some ⟨b3,0,none⟩)),(4,.pointer (some ⟨b4,0,none⟩)),(18,.slice A k.nl lc),(19,.int .i64 (k.nl:Nat)),(20,.int .i64 (y.1.2.1:Nat))],[(b4,true,.cells ⟨[.bool false]⟩ 4 (0,0)),(b3,true,.cells ⟨[mA s]⟩ 9 (0,0)),(b2,true,.cells ⟨(k.val A lc B tc).cells.toList⟩ 166 (0,0))]++Mk y.1.2.2,marks y.1.2.2)) (fun y=> k.nl-y.1.2.1) ?_ ⟨(H₄,0,[r]),X9,Nat.zero_le _,fun i hi=> absurd hi (Nat.not_lt_zero _)⟩)
  rintro⟨⟨H₅,i,rs⟩,g1,g2,g3⟩ ih;simp only at g1 g2 g3;show Tc M St _ _ H₅ _ [(2,.pointer (some ⟨b2,0,none⟩)),(3,.pointer (some ⟨b3,0,none⟩)),(4,.pointer (some ⟨b4,0,none⟩)),(18,.slice A k.nl lc),(19,.int .i64 (k.nl:Nat)),(20,.int .i64 (i:Nat))] ([(b4,true,.cells ⟨[.bool false]⟩ 4 (0,0)),(b3,true,.cells ⟨[mA s]⟩ 9 (0,0)),(b2,true,.cells ⟨(k.val A lc B tc).cells.toList⟩ 166 (0,0))]++Mk rs) (marks rs) _;by_cases c1:i=k.nl
  ·have e:k.safe s=true:=by
    unfold Bk.safe;rw[q5,(DD k.nl).2 (by rw[<-c1];exact g3)];rfl
   subst c1;rw[e] at hK;refine PE ?_;refine Tc.Y6 (E:=en) (L:= [(b4,true,.cells ⟨[.bool true]⟩ 4 (0,0)),(b3,true,.cells ⟨[mA s]⟩ 9 (0,0)),(b2,true,.cells ⟨(k.val A lc B tc).cells.toList⟩ 166 (0,0))]) (rs:=rs) hK func138 results138 (vs:= [_]) (by refine⟨⟨0,_,_,_,_,_,_,_,rfl,rfl,rfl,rfl⟩,?_⟩;exact trivial) ?_;exact fun H' hs=> ⟨View.le_trans g1 hs.base,rfl⟩
  ·have c2:i<k.nl:=by omega
   obtain⟨KW,hl1,sS⟩:=Bk.tL ha c2;have vU:=hk.rows;obtain⟨_,h0|⟨ab,ao,fa,gs,gt,gz,rfl,OQ,ZW⟩⟩:=vU
   ·omega
   obtain⟨F,fc,f1,_,_⟩:=ZW i c2;have aGV:=g1 _ _ OQ;refine CG ?_;refine .al fun b7=> ?_;refine U6 ?_;refine To.vB rfl rfl rfl rfl rfl rfl dE (uB.h (dT M H₅ (k.num i))) (fun v H₆ hv=> ?_);obtain⟨aBR,sb2,rfl,yU⟩:=hv;refine U ?_;have aGa:=fun(H':View) (hc:XF (k.num i) sb2 H')=> AP M H' (k.num i) KW oM sb2 hc;refine U ?_;refine Tc.db (R':= [(2,.pointer (some ⟨b2,0,none⟩)),(3,.pointer (some ⟨b3,0,none⟩)),(4,.pointer (some ⟨b4,0,none⟩)),(18,.slice (some ⟨ab,ao,none⟩) k.nl lc),(19,.int .i64 (k.nl:Nat)),(20,.int .i64 (i:Nat)),(26,AV sb2)]) (L':= [(b4,true,.cells ⟨[.bool false]⟩ 4 (0,0)),(b3,true,.cells ⟨[mA s]⟩ 9 (0,0)),(b2,true,.cells ⟨(k.val (some ⟨ab,ao,none⟩) lc B tc).cells.toList⟩ 166 (0,0))]++Mk rs) ?_;refine Tc.XS (A:= []) (ts:= [27]) (xs:=YG (k.num i)) (fun rest H₄=> k.bT s i=rest.all (fun x=> !pB x s)/\XF (k.num i) sb2 H₄/\H₆.le H₄) (fun j H₄=> j=.ret/\k.bT s i=false/\H₆.le H₄) rfl rfl rfl rfl aGa (fun _ _=> XF.le _ _) (fun _ _ ⟨_,h,_⟩=> h) rfl (fun _ _=> rfl)
     ⟨rfl,yU,View.le_refl _⟩ ?_ ?_ ?_
   ·rintro r2 x rest _ l tmps asg bdy H₇ _ hx ⟨rfl,p2,p3,p4⟩ Q St1 cc1 cs1 ZM q q';rw[List.all_cons] at p2;cases hbx:pB x s with
    | true=>
     rw[hbx] at p2;refine U3 ?_;refine Tc.beginRound (i:=0) rfl rfl rfl ?_;refine U5 ?_;refine .cl (fun H hs=> MD M H x s true hbx) ?_;refine U6 ?_;refine Tc.GA ZM (i:=0) rfl (.inr (.inl ⟨_,rfl,rfl⟩)) (fun H' hs=> q' H' H₇ _ _ hs ⟨rfl,rfl,p2,p4⟩)
    | false=>
     rw[hbx] at p2;refine U3 ?_;refine Tc.beginRound (i:=0) rfl rfl rfl ?_;refine U5 ?_;refine .cl (fun H hs=> MD M H x s false hbx) ?_;refine U4 ?_;refine Tc.GA ZM (i:=0) rfl (.inl ⟨rfl,rfl⟩) (fun H' hs=> q H' H₇ _ hs ⟨rfl,p2,p3,p4⟩)
   ·rintro r2 H₇ ⟨p2,p3,p4⟩;refine Tc.marked (L:= [(b4,true,.cells ⟨[.bool false]⟩ 4 (0,0)),(b3,true,.cells ⟨[mA s]⟩ 9 (0,0)),(b2,true,.cells ⟨(k.val (some ⟨ab,ao,none⟩) lc B tc).cells.toList⟩ 166 (0,0))]) (rs:=rs) ?_;refine U6 ?_;have XD:=ih ⟨(H₇,i+1,r2::rs),View.le_trans g1 (View.le_trans aBR p4),c2,fun m hm=> by
     by_cases e:m=i
     ·subst e;exact p2
     ·exact g3 m (by simp only at hm;omega)⟩ (by simp only;omega)
    exact Tc.db XD
   ·rintro r2 j H₇ ⟨rfl,p2,p4⟩;have e:k.safe s=false:=by
     unfold Bk.safe;rw[cG c2 p2];simp
    rw[e] at hK;refine Tc.marked (L:= [(b4,true,.cells ⟨[.bool false]⟩ 4 (0,0)),(b3,true,.cells ⟨[mA s]⟩ 9 (0,0)),(b2,true,.cells ⟨(k.val (some ⟨ab,ao,none⟩) lc B tc).cells.toList⟩ 166 (0,0))]) (rs:=rs) ?_;refine Tc.Y6 (E:=en) (L:= [(b4,true,.cells ⟨[.bool false]⟩ 4 (0,0)),(b3,true,.cells ⟨[mA s]⟩ 9 (0,0)),(b2,true,.cells ⟨(k.val (some ⟨ab,ao,none⟩) lc B tc).cells.toList⟩ 166 (0,0))]) (rs:=r2::rs) hK func138 results138 (vs:= [_]) (by refine⟨⟨0,_,_,_,_,_,_,_,rfl,rfl,rfl,rfl⟩,?_⟩;exact trivial) ?_;exact fun H' hs=> ⟨View.le_trans g1 (View.le_trans aBR (View.le_trans p4 hs.base)),rfl⟩
 ·rintro r j H₄ ⟨rfl,q2,q4⟩;have e:k.safe s=false:=by
   unfold Bk.safe;rw[q2];rfl
  rw[e] at hK;refine Tc.aT (E:=en) (i:=0) hK func138 results138 (vs:= [_]) rfl (by refine⟨⟨1,_,_,_,_,_,_,_,rfl,rfl,rfl,rfl⟩,?_⟩;exact trivial) ?_;exact fun H' hs=> ⟨View.le_trans TE (View.le_trans q4 hs.base),rfl⟩
def Bk.gI(k:Bk)(s:List UInt8):Value:=
 if k.WA≠0 then .tuple ⟨[.bool false,.int .i64 k.WA]⟩ else if isNum s=false then .tuple ⟨[.bool false,.int .i64 3]⟩ else if k.clash s=true then .tuple ⟨[.bool false,.int .i64 10]⟩ else .tuple ⟨[.bool (k.safe s),.int .i64 0]⟩
theorem P2(k:Bk)(A:Option Addr)(lc:Nat)(B:Option Addr)(tc:Nat)(hk:LF H k A lc B tc)(hn:k.small)(hG:aE H)(s:List UInt8)(OO:s.length<=1000):
  bA M 56 #[k.val A lc B tc,mA s] H (fun v H'=> H.le H'/\v=k.gI s):=by
 by_cases ha:k.WA=0
 ·have lA:=fun(H':View) (h':H.le H')=> vC M H' k A lc B tc (hk.le h') hn (IA hG h') ha;cases h1:isNum s with
  | false=>
   have ev:k.gI s=.tuple ⟨[.bool false,.int .i64 3]⟩:=by
    unfold Bk.gI;rw[if_neg (by simp[ha]),if_pos h1]
   rw[ev];refine .en func56 ntmps56 fun St c cs hK=> ?_;refine U2 ?_;refine .bo fun b2=> ?_;refine U6 ?_;refine .cl (fun H hs=> lA H hs.base) ?_;refine U3 ?_;refine .al fun b6=> ?_;refine XP ?_;refine .cl (fun H hs=> JF (CC M H s oM) h1) ?_;refine U9 ?_;refine .rt hK func56 results56 [_,_] ?_;exact okB
  | true=>
   have KW:s.all BD=true:=by
    unfold isNum at h1;simp only[Bool.and_eq_true] at h1;exact h1.2
   cases h2:k.clash s with
   | true=>
    have ev:k.gI s=.tuple ⟨[.bool false,.int .i64 10]⟩:=by
     unfold Bk.gI;rw[if_neg (by simp[ha]),if_neg (by simp[h1]),if_pos h2]
    rw[ev];refine .en func56 ntmps56 fun St c cs hK=> ?_;refine U2 ?_;refine .bo fun b2=> ?_;refine U6 ?_;refine .cl (fun H hs=> lA H hs.base) ?_;refine U3 ?_;refine .al fun b6=> ?_;refine XP ?_;refine .cl (fun H hs=> JF (CC M H s oM) h1) ?_;refine U9 ?_;refine .cl (fun H hs=> JF (RE M H k A lc (hk.rows.le hs.base) hn.nl s) h2) ?_;refine U8 ?_;refine .rt hK func56 results56 [_,_] ?_;exact okB
   | false=>
    have ev:k.gI s=.tuple ⟨[.bool (k.safe s),.int .i64 0]⟩:=by
     unfold Bk.gI;rw[if_neg (by simp[ha]),if_neg (by simp[h1]),if_neg (by simp[h2])]
    rw[ev];refine .en func56 ntmps56 fun St c cs hK=> ?_;refine U2 ?_;refine .bo fun b2=> ?_;refine U6 ?_;refine .cl (fun H hs=> lA H hs.base) ?_;refine U3 ?_;refine .al fun b6=> ?_;refine XP ?_;refine .cl (fun H hs=> JF (CC M H s oM) h1) ?_;refine U9 ?_;refine .cl (fun H hs=> JF (RE M H k A lc (hk.rows.le hs.base) hn.nl s) h2) ?_;refine U9 ?_;refine .cl (fun H hs=> j7 M H k A lc B tc (hk.le hs.base) hn ha s KW OO) ?_;refine U3 ?_;refine .rt hK func56 results56 [_,_] ?_;exact okB
 ·have ev:k.gI s=.tuple ⟨[.bool false,.int .i64 k.WA]⟩:=if_pos ha;rw[ev];refine .en func56 ntmps56 fun St c cs hK=> ?_;refine U2 ?_;refine .bo fun b2=> ?_;refine U6 ?_;refine .cl (fun H hs=> wK M H k A lc B tc true (hk.le hs.base) hn (IA hG hs.base) ha) ?_;refine U3 ?_;refine .al fun b6=> ?_;refine QT ?_;refine .rt hK func56 results56 [_,_] ?_;exact okB
theorem QL(s:List UInt8)(GH:s.all BD=true)(OO:s.length<=1000):bA M 45 #[mA s] H (fun v H'=> H.le H'/\v=.int .i64 (AB s:Nat)):=by
 have hb:=FJ s GH;refine .en func45 ntmps45 fun St c cs hK=> ?_;refine NF ?_;refine .e (Or.YS (E:=en) (s:=⟨⟨s⟩⟩) rfl rfl rfl rfl rfl dE (fun it=> ?_));refine U2 ?_;refine Tc.db (Tc.tA (σ:= { p:Nat//p<=s.length }) (fun p=> ([(3,.int .i64 (AB (s.take p.1):Nat)),(7,.pointer (some ⟨it,0,none⟩))],[(it,true,.stringIter ⟨⟨s⟩⟩ p.1)])) (fun p=> s.length-p.1) ?_ ⟨0,Nat.zero_le _⟩);rintro⟨p,hp⟩ ih;show Tc M St _ _ _ _ [(3,.int .i64 (AB (s.take p):Nat)),(7,.pointer (some ⟨it,0,none⟩))] [(it,true,.stringIter ⟨⟨s⟩⟩ p)] _ _;have aG8:AB (s.take p)<=10*p:=by
  have h1:(s.take p).all BD=true:=List.all_eq_true.2 fun x hx=> List.all_eq_true.1 GH x (List.mem_of_mem_take hx);have h2:=FJ (s.take p) h1;rw[List.length_take] at h2;omega
 by_cases c1:p=s.length
 ·subst c1;have p8:¬s.length<(ByteArray.mk ⟨s⟩).size:=by show ¬s.length<s.length;omega
  rw[List.take_length];refine U2 ?_;refine .e (Or.PS 0 rfl rfl rfl p8 rfl dE ?_);refine lD ?_;refine .rt hK func45 results45 [_] ?_;exact okB
 ·have c2:p<s.length:=by omega
  obtain⟨x,hx,F1,lL⟩:=sJ s p c2 GH;have CY:=oP F1;have fQ:p<(ByteArray.mk ⟨s⟩).size:=c2;have ha:pA .add .i64 (AB (s.take p):Nat) (pn x:Nat)=some (.int .i64 ((AB (s.take (p+1)):Nat):Int)):=by
   rw[eC oM oM,O0 hx];rfl
  refine U2 ?_;refine .e (Or.jP 0 rfl rfl rfl fQ lL rfl dE ?_);refine QE ?_;refine .cl (fun H hs=> pP M H x F1) ?_;refine U4 ?_;exact Tc.db (ih ⟨p+1,oM⟩ (by simp only;omega))
def zL(s:List UInt8):Value:=if isNum s=false then .tuple ⟨[.int .i64 0,.int .i64 3]⟩ else .tuple ⟨[.int .i64 (AB s:Nat),.int .i64 0]⟩
theorem O2(s:List UInt8)(OO:s.length<=1000):bA M 13 #[mA s] H (fun v H'=> H.le H'/\v=zL s):=by
 cases h1:isNum s with
 | false=>
  have ev:zL s=.tuple ⟨[.int .i64 0,.int .i64 3]⟩:=if_pos h1;rw[ev];refine .en func13 ntmps13 fun St c cs hK=> ?_;refine U9 ?_;refine .cl (fun H hs=> JF (CC M H s oM) h1) ?_;refine U8 ?_;refine .rt hK func13 results13 [_,_] ?_;exact okB
 | true=>
  have KW:s.all BD=true:=by
   unfold isNum at h1;simp only[Bool.and_eq_true] at h1;exact h1.2
  have ev:zL s=.tuple ⟨[.int .i64 (AB s:Nat),.int .i64 0]⟩:=if_neg (by simp[h1]);rw[ev];refine .en func13 ntmps13 fun St c cs hK=> ?_;refine U9 ?_;refine .cl (fun H hs=> JF (CC M H s oM) h1) ?_;refine U7 ?_;refine .cl (fun H hs=> QL M H s KW OO) ?_;refine U3 ?_;refine .rt hK func13 results13 [_,_] ?_;exact okB
end
def aD(dg:List UInt8):Nat->List UInt8->List (List UInt8)
 | 0,s=> [s]
 | d+1,s=> dg.flatMap fun x=> aD dg d (s++[x])
def bM(dg:List UInt8)(many:Nat):List (List UInt8):=aD dg many []
theorem OR(dg:List UInt8)(d:Nat)(s:List UInt8){p:Nat}{x:UInt8}(h:dg[p]? =some x):(dg.drop p).flatMap (fun x=> aD dg d (s++[x]))=aD dg d (s++[x])++(dg.drop (p+1)).flatMap (fun x=> aD dg d (s++[x])):=by
 obtain⟨hp,rfl⟩:=List.getElem?_eq_some_iff.1 h;rw[List.drop_eq_getElem_cons hp,List.flatMap_cons]
def UT(b1 b2:Nat):Value:=.func (.func 225) #[] #[.pointer (some ⟨b1,0,none⟩),.pointer (some ⟨b2,0,none⟩)]
def u6(b1 b3 b2 b4:Nat):Value:=.func (.func 226) #[] #[.pointer (some ⟨b1,0,none⟩),.pointer (some ⟨b3,0,none⟩),.pointer (some ⟨b2,0,none⟩),.pointer (some ⟨b4,0,none⟩)]
structure VL(many:Nat)(dg:List UInt8)(b1 b2:Nat)(H:View):Prop where
 a:∃f,H b1=some (f,.cells ⟨[.int .i64 (many:Nat)]⟩ 3 (0,0))
 b:∃f,H b2=some (f,.cells ⟨[mA dg]⟩ 9 (0,0))
theorem VL.le {many:Nat}{dg:List UInt8}{b1 b2:Nat}(H H':View)(h:H.le H')(c:VL many dg b1 b2 H):VL many dg b1 b2 H':=⟨c.a.imp fun _ e=> h _ _ e,c.b.imp fun _ e=> h _ _ e⟩
def iP(l b1 b2 b3 b4:Nat):Bl:= [(b4,true,.cells ⟨[u6 b1 b3 b2 b4]⟩ 101 (0,0)),(b3,true,.cells ⟨[.func (.yield l) #[] #[]]⟩ 101 (0,0))]
section
variable(M:Md prog)(H:View)
theorem X2(many:Nat)(dg:List UInt8):bA M 139 #[.int .i64 (many:Nat),mA dg] H (fun v H'=> H.le H'/\∃b1 b2,v=UT b1 b2/\VL many dg b1 b2 H'):=by
 refine .en func139 ntmps139 fun St c cs hK=> ?_;refine U2 ?_;refine .bo fun b2=> ?_;refine .bo fun b3=> ?_;refine U7 ?_;refine .rt hK func139 results139 [_] ?_;exact fun H' hs=> ⟨hs.base,b2,b3,rfl,⟨true,hs.get (i:=1) rfl⟩,⟨true,hs.get (i:=0) rfl⟩⟩
theorem aCh(many:Nat)(dg:List UInt8)(hm:many<=1000)(KW:dg.all BD=true)(PQ:dg.length<=1000)(l b1 b2 b3 b4:Nat)(xs:List (List UInt8))(J:List (List UInt8)->View->Prop)(D:View->Prop)(wB:∀rest H',J rest H'->VL many dg b1 b2 H')
  (hy:∀x rest (_:Unit) H' H'',x∈xs->J (x::rest) H'->gA H' [] H''->uB M (.func (.yield l) #[] #[]) [mA x] H'' fun v H3=> (v=.bool true/\∃H₂,gA H₂ [] H3/\J rest H₂)\/(v=.bool false/\D H3)):
  ∀ (d:Nat) (s:List UInt8) (rest:List (List UInt8)) (H₁ Hc:View),s.length+d=many->J (aD dg d s++rest) H₁->(∀x∈aD dg d s,x∈xs)->gA H₁ (iP l b1 b2 b3 b4) Hc-> 
   bA M 226 #[mA s,.pointer (some ⟨b1,0,none⟩),.pointer (some ⟨b3,0,none⟩),.pointer (some ⟨b2,0,none⟩),.pointer (some ⟨b4,0,none⟩)] Hc (fun v H3=> (v=.bool true/\∃H₂,gA H₂ (iP l b1 b2 b3 b4) H3/\J rest H₂)\/(v=.bool false/\∃H₂,H₂.le H3/\D H₂)):=by
 intro d;induction d with
 | zero=>
  intro s rest H₁ Hc hsd hJ FK xS;obtain⟨⟨fa,ha⟩,⟨fb,hb⟩⟩:=wB _ _ hJ;refine bA.enter (vs:= [mA s,.pointer (some ⟨b1,0,none⟩),.pointer (some ⟨b3,0,none⟩),.pointer (some ⟨b2,0,none⟩),.pointer (some ⟨b4,0,none⟩)]) func226 rfl ntmps226 (Nat.le_of_ble_eq_true rfl) (xS) fun St c cs hK=> ?_;unfold iP;refine OK ?_;refine To.vB rfl rfl rfl rfl rfl rfl dE (hy s rest () H₁ H₁ (FK s (by simp[aD])) hJ (gA.nil H₁)) (fun v H₃ hv=> ?_);rcases hv with ⟨rfl,H4,h8,j3⟩|⟨rfl,hD⟩
  ·refine To.lower h8.base ?_;refine U2 ?_;refine .rt hK func226 results226 [_] ?_;exact fun H' hs=> .inl ⟨rfl,H4,hs,j3⟩
  ·refine U2 ?_;refine .rt hK func226 results226 [_] ?_;exact fun H' hs=> .inr ⟨rfl,H₃,hs.base,hD⟩
 | succ d ihd=>
  intro s rest H₁ Hc hsd hJ FK xS;obtain⟨⟨fa,ha⟩,⟨fb,hb⟩⟩:=wB _ _ hJ;refine bA.enter (vs:= [mA s,.pointer (some ⟨b1,0,none⟩),.pointer (some ⟨b3,0,none⟩),.pointer (some ⟨b2,0,none⟩),.pointer (some ⟨b4,0,none⟩)]) func226 rfl ntmps226 (Nat.le_of_ble_eq_true rfl) (xS) fun St c cs hK=> ?_;unfold iP;refine QT ?_;refine .e (Or.YS (E:=en) (s:=⟨⟨dg⟩⟩) rfl rfl rfl rfl rfl dE (fun it=> ?_));refine U2 ?_;refine Tc.db (Tc.NI (σ:= { x:Nat×View//x.1<=dg.length/\J ((dg.drop x.1).flatMap (fun y=> aD dg d (s++[y]))++rest) x.2 })
   (fun x=> (x.1.2,[(0,mA s),(1,.pointer (some ⟨b1,0,none⟩)),(2,.pointer (some ⟨b3,0,none⟩)),(3,.pointer (some ⟨b2,0,none⟩)),(4,.pointer (some ⟨b4,0,none⟩)),(16,.pointer (some ⟨it,0,none⟩))],[(it,true,.stringIter ⟨⟨dg⟩⟩ x.1.1),(b4,true,.cells ⟨[u6 b1 b3 b2 b4]⟩ 101 (0,0)),(b3,true,.cells ⟨[.func (.yield l) #[] #[]]⟩ 101 (0,0))])) (fun x=> dg.length-x.1.1) ?_ ⟨(0,H₁),Nat.zero_le _,hJ⟩)
  rintro⟨⟨p,H₂⟩,g1,j1⟩ ih;simp only at g1 j1;show Tc M St _ _ H₂ _ [(0,mA s),(1,.pointer (some ⟨b1,0,none⟩)),(2,.pointer (some ⟨b3,0,none⟩)),(3,.pointer (some ⟨b2,0,none⟩)),(4,.pointer (some ⟨b4,0,none⟩)),(16,.pointer (some ⟨it,0,none⟩))] [(it,true,.stringIter ⟨⟨dg⟩⟩ p),(b4,true,.cells ⟨[u6 b1 b3 b2 b4]⟩ 101 (0,0)),(b3,true,.cells ⟨[.func (.yield l) #[] #[]]⟩ 101 (0,0))] _ _;by_cases c1:p=dg.length
  ·subst c1;have p8:¬dg.length<(ByteArray.mk ⟨dg⟩).size:=by show ¬dg.length<dg.length;omega
   rw[List.drop_length] at j1;refine U2 ?_;refine .e (Or.PS 0 rfl rfl rfl p8 rfl dE ?_);refine U9 ?_;refine .rt hK func226 results226 [_] ?_;exact fun H' hs=> .inl ⟨rfl,H₂,hs.less sL,j1⟩
  ·have c2:p<dg.length:=by omega
   obtain⟨x,hx,F1,lL⟩:=sJ dg p c2 KW;have fQ:p<(ByteArray.mk ⟨dg⟩).size:=c2;obtain⟨⟨fa,ha⟩,⟨fb,hb⟩⟩:=wB _ _ j1;rw[OR dg d s hx,List.append_assoc] at j1;have aF8:∀y∈aD dg d (s++[x]),y∈xs:=fun y hyy=> FK y (List.mem_flatMap.2 ⟨x,List.mem_of_getElem? hx,hyy⟩);have e2:(dg.drop ((p:Nat):Int).toNat).take ((((p:Nat):Int)+1).toNat-((p:Nat):Int).toNat)= [x]:=by
    rw[show(((p:Nat):Int)+1).toNat-((p:Nat):Int).toNat=1 by omega,Int.toNat_natCast];obtain⟨hp',rfl⟩:=List.getElem?_eq_some_iff.1 hx;rw[List.drop_eq_getElem_cons hp'];rfl
   refine U2 ?_;refine .e (Or.jP 0 rfl rfl rfl fQ lL rfl dE ?_);refine NF ?_;refine Tc.drC [] [8] [] mixed rfl ?_;refine .oo 0 ?_;refine .oo 1 ?_;refine .oo 2 ?_;refine .oo 3 ?_;refine .oo 4 ?_;refine .oo 5 ?_;refine Ta.IX 6 kR rfl rfl dE rfl rfl (qA.take (qA.XG (E:=en) rfl rfl rfl rfl rfl rfl oM oM oM)) ?_;refine Ta.IX 7 kR rfl rfl dE rfl rfl (qA.take (qA.fF rfl rfl rfl (by exact bJ (by simp <;> omega)))) ?_;rw[e2];refine Ta.lift (L₂:= [(it,true,.stringIter ⟨⟨dg⟩⟩ (p+1))]) (L₁:=iP l b1 b2 b3 b4) rfl (fun Hx P1=> ?_);refine Ta.vB 8 kR rfl kR rfl rfl rfl rfl rfl rfl dE (uB.of (first:= []) (captured:= [_,_,_,_]) aAU rfl (ihd (s++[x]) _ H₂ Hx (by rw[List.length_append];show s.length+1+d=many;omega) j1 aF8 P1)) (fun v H₃ hv=> ?_);rcases hv with ⟨rfl,H4,h8,j3⟩|⟨rfl,H4,hl4,hD⟩
   ·refine Ta.expand h8 ?_;unfold iP;refine .ea 9 rfl (Or.bV .nt rfl dE ⟨S3.off kR,?_⟩);refine .dn ?_;refine U3 ?_;exact Tc.db (ih ⟨(p+1,H4),by simp only;omega,j3⟩ (by simp only;omega))
   ·refine .ea 9 rfl (Or.bV .nt rfl dE ⟨S3.off kR,?_⟩);refine .dn ?_;refine U5 ?_;refine .rt hK func226 results226 [_] ?_;exact fun H' hs=> .inr ⟨rfl,H4,View.le_trans hl4 hs.base,hD⟩
theorem iK(many:Nat)(dg:List UInt8)(hm:many<=1000)(KW:dg.all BD=true)(PQ:dg.length<=1000)(b1 b2:Nat):
  QJ M (UT b1 b2) (bM dg many) (fun x (_:Unit)=> [mA x]) (fun _ _=> []) (fun _ _=> []) (VL many dg b1 b2) [] H:=fun l J D wB h0 hy H₀ ME=> by
 refine uB.of (first:= []) (captured:= [_,_]) aD9 rfl ?_;refine bA.enter (vs:= [.func (.yield l) #[] #[],.pointer (some ⟨b1,0,none⟩),.pointer (some ⟨b2,0,none⟩)]) func225 rfl ntmps225 (Nat.le_of_ble_eq_true rfl) (ME) fun St c cs hK=> ?_;refine U2 ?_;refine .bo fun b3=> ?_;refine U3 ?_;refine .al fun b4=> ?_;refine U8 ?_;refine To.lift (L₂:= []) (L₁:=iP l b1 b2 b3 b4) rfl (fun Hx hx=> ?_);refine To.vB rfl rfl rfl rfl rfl rfl dE (uB.of (first:= []) (captured:= [_,_,_,_]) aAU rfl (aCh M many dg hm KW PQ l b1 b2 b3 b4 (bM dg many) J D wB (fun x rest e H' H'' h1 h2 h3=> hy x rest e H' H'' h1 h2 h3) many [] [] H Hx (Nat.zero_add _) (by rw[List.append_nil];exact h0) (fun x hx=> hx) hx)) (fun v H₃ hv=> ?_);refine U ?_;refine .ov hK func225 results225 [] ?_;intro H' hs;rcases hv with ⟨_,H4,h8,j3⟩|⟨_,H4,hl4,hD⟩
 ·exact⟨H4,View.le_trans h8.base hs.base,.inl j3⟩
 ·exact⟨H4,View.le_trans hl4 hs.base,.inr hD⟩
end
theorem jN {dg:List UInt8}:∀(d:Nat) (s x:List UInt8),x∈aD dg d s->x.length=s.length+d/\∀y∈x,y∈s\/y∈dg
 | 0,s,x,h=> by
  have:x=s:=by simpa [aD] using h
  subst this;exact⟨rfl,fun y hy=> .inl hy⟩
 | d + 1,s,x,h=> by
  obtain⟨z,hz,h2⟩:=List.mem_flatMap.1 h;obtain⟨h3,h4⟩:=jN d _ x h2;refine⟨by rw[h3,List.length_append];show s.length+1+d=_;omega,fun y hy=> ?_⟩;rcases h4 y hy with h5|h5
  ·rcases List.mem_append.1 h5 with h6|h6
   ·exact .inl h6
   ·have:y=z:=by simpa using h6
    subst this;exact .inr hz
  ·exact .inr h5
theorem PU {dg:List UInt8}{n:Nat}{x:List UInt8}(h:x∈bM dg n):x.length=n/\∀y∈x,y∈dg:=by
 obtain⟨h1,h2⟩:=jN n [] x h;exact⟨by simpa using h1,fun y hy=> (h2 y hy).resolve_left (by simp)⟩
theorem nU:bL.all BD=true:=by decide +kernel
def Bk.kF(k:Bk)(sf:Bool)(x:List UInt8):Bool:=!k.clash x&&(!sf||k.safe x)
def Bk.spare(k:Bk)(n:Nat)(sf:Bool):Option (List UInt8):=(bM bL n).find? (k.kF sf)
def uG(x:List UInt8)(t:Bool)(a:Int):Value:=.tuple ⟨[mA x,.bool t,.int .i64 a]⟩
def Bk.aJ(k:Bk)(z:Int)(sf:Bool):Value:=
 if k.WA≠0 then uG [] false k.WA else if ¬(1<=z/\z<=3) then uG [] false 1 else match k.spare z.toNat sf with
  | some x=> uG x true 0
  | none=> uG [] false 0
section
variable(M:Md prog)(H:View)
theorem P8(k:Bk)(A:Option Addr)(lc:Nat)(B:Option Addr)(tc:Nat)(hk:LF H k A lc B tc)(hn:k.small)(hG:aE H)(z:Int)(sf:Bool):
  bA M 57 #[k.val A lc B tc,.int .i64 z,.bool sf] H (fun v H'=> H.le H'/\v=k.aJ z sf):=by
 by_cases ha:k.WA=0
 ·have lA:=fun(H':View) (h':H.le H')=> vC M H' k A lc B tc (hk.le h') hn (IA hG h') ha;by_cases c1:1<=z/\z<=3
  ·obtain ⟨n,rfl⟩:∃n:Nat,z=n:=⟨z.toNat,oM⟩
   have ev:k.aJ (n:Nat) sf=match k.spare n sf with
     | some x=> uG x true 0
     | none=> uG [] false 0:=by
    unfold Bk.aJ;rw[if_neg (by simp[ha]),if_neg (fun h=> h c1)];rfl
   have hbt:=fun(H':View)=> zA M H' ((n:Nat):Int) 1 3 true (decide_eq_true c1);refine .en func57 ntmps57 fun St c cs hK=> ?_;refine U2 ?_;refine .bo fun b3=> ?_;refine .bo fun b5=> ?_;refine .al fun b6=> ?_;refine .al fun b7=> ?_;refine .al fun b8=> ?_;refine U4 ?_;refine .cl (fun H hs=> lA H hs.base) ?_;refine U3 ?_;refine .al fun b9=> ?_;refine XP ?_;refine .cl (fun H hs=> hbt H) ?_;refine lD ?_;refine To.vB rfl rfl rfl rfl rfl rfl dE (uB.h (X2 M H n bL)) (fun v H₁ hv=> ?_);obtain⟨TE,a1,a2,rfl,wB⟩:=hv;refine U ?_;have dI:=fun(H':View) (_:VL n bL a1 a2 H')=> iK M H' n bL oM nU dE a1 a2;refine U ?_;refine Tc.db (R':= [(3,.pointer (some ⟨b3,0,none⟩)),(5,.pointer (some ⟨b5,0,none⟩)),(6,.pointer (some ⟨b6,0,none⟩)),(7,.pointer (some ⟨b7,0,none⟩)),(8,.pointer (some ⟨b8,0,none⟩)),(9,.pointer (some ⟨b9,0,none⟩)),(25,UT a1 a2)])
    (L':= [(b9,true,.cells ⟨(k.val A lc B tc).cells.toList⟩ 166 (0,0)),(b8,true,.cells ⟨[.int .i64 0]⟩ 25 (0,0)),(b7,true,.cells ⟨[.bool false]⟩ 4 (0,0)),(b6,true,.cells ⟨[mA []]⟩ 9 (0,0)),(b5,true,.cells ⟨[.bool sf]⟩ 4 (0,0)),(b3,true,.cells ⟨(k.val A lc B tc).cells.toList⟩ 45 (0,0))]) ?_
   refine Tc.zK (A:= []) (ts:= [26]) (xs:=bM bL n) (fun rest H₄ L₄=> L₄= [(b9,true,.cells ⟨(k.val A lc B tc).cells.toList⟩ 166 (0,0)),(b8,true,.cells ⟨[.int .i64 0]⟩ 25 (0,0)),(b7,true,.cells ⟨[.bool false]⟩ 4 (0,0)),(b6,true,.cells ⟨[mA []]⟩ 9 (0,0)),(b5,true,.cells ⟨[.bool sf]⟩ 4 (0,0)),(b3,true,.cells ⟨(k.val A lc B tc).cells.toList⟩ 45 (0,0))]
     /\k.spare n sf=rest.find? (k.kF sf)/\VL n bL a1 a2 H₄/\H₁.le H₄)
     (fun j H₄ L₄=> ∃x,L₄= [(b9,true,.cells ⟨(k.val A lc B tc).cells.toList⟩ 166 (0,0)),(b8,true,.cells ⟨[.int .i64 0]⟩ 25 (0,0)),(b7,true,.cells ⟨[.bool true]⟩ 4 (0,0)),(b6,true,.cells ⟨[mA x]⟩ 9 (0,0)),(b5,true,.cells ⟨[.bool sf]⟩ 4 (0,0)),(b3,true,.cells ⟨(k.val A lc B tc).cells.toList⟩ 45 (0,0))]/\j=.ret/\k.spare n sf=some x/\H₁.le H₄)
     rfl rfl rfl rfl dI (fun _ _=> VL.le _ _) (fun _ _ _ ⟨_,_,h,_⟩=> h) rfl (fun _ _=> rfl) ⟨rfl,rfl,wB,View.le_refl _⟩ ?_ ?_ ?_
   ·rintro r x rest _ l tmps asg bdy H₄ _ hx ⟨rfl,q2,q3,q4⟩ Q St1 cc1 cs1 ZM q q';have X9:=View.le_trans TE q4;obtain⟨B8,hxd⟩:=PU hx;have aEM:x.all BD=true:=List.all_eq_true.2 fun y hy=> List.all_eq_true.1 nU y (hxd y hy);have nB:=fun(H':View) (h':H₄.le H')=> RE M H' k A lc (hk.rows.le (View.le_trans X9 h')) hn.nl x;have hsf:=fun(H':View) (h':H₄.le H')=> j7 M H' k A lc B tc (hk.le (View.le_trans X9 h')) hn ha x aEM oM;rw[List.find?_cons] at q2;cases h1:k.clash x with
    | true=>
     have e1:k.kF sf x=false:=by unfold Bk.kF;rw[h1];rfl
     rw[e1] at q2;rw[h1] at nB;refine U3 ?_;refine Tc.beginRound (i:=0) rfl rfl rfl ?_;refine U4 ?_;refine .x (.ld 7) ?_;refine U ?_;refine .cl (fun H hs=> nB H hs.base) ?_;refine U5 ?_;refine To.LB rfl dE rfl ?_;refine To.LB rfl dE rfl ?_;refine To.LB rfl dE rfl ?_;refine U6 ?_;refine Tc.GA ZM (i:=0) rfl (.inl ⟨rfl,rfl⟩) (fun H' hs=> q H' H₄ _ hs ⟨rfl,q2,q3,q4⟩)
    | false=>
     rw[h1] at nB;cases sf with
     | false=>
      have e1:k.kF false x=true:=by unfold Bk.kF;rw[h1];rfl
      rw[e1] at q2;refine U3 ?_;refine Tc.beginRound (i:=0) rfl rfl rfl ?_;refine U4 ?_;refine .x (.ld 7) ?_;refine U ?_;refine .cl (fun H hs=> nB H hs.base) ?_;refine YP ?_;refine Tc.GA ZM (i:=0) rfl (.inr (.inl ⟨_,rfl,rfl⟩)) (fun H' hs=> q' H' H₄ _ _ hs ⟨x,rfl,rfl,q2,q4⟩)
     | true=>
      cases h2:k.safe x with
      | true=>
       have e1:k.kF true x=true:=by unfold Bk.kF;rw[h1,h2];rfl
       rw[e1] at q2;rw[h2] at hsf;refine U3 ?_;refine Tc.beginRound (i:=0) rfl rfl rfl ?_;refine U4 ?_;refine .x (.ld 7) ?_;refine U ?_;refine .cl (fun H hs=> nB H hs.base) ?_;refine U7 ?_;refine .cl (fun H hs=> hsf H hs.base) ?_;refine PE ?_;refine Tc.GA ZM (i:=0) rfl (.inr (.inl ⟨_,rfl,rfl⟩)) (fun H' hs=> q' H' H₄ _ _ hs ⟨x,rfl,rfl,q2,q4⟩)
      | false=>
       have e1:k.kF true x=false:=by unfold Bk.kF;rw[h1,h2];rfl
       rw[e1] at q2;rw[h2] at hsf;refine U3 ?_;refine Tc.beginRound (i:=0) rfl rfl rfl ?_;refine U4 ?_;refine .x (.ld 7) ?_;refine U ?_;refine .cl (fun H hs=> nB H hs.base) ?_;refine U7 ?_;refine .cl (fun H hs=> hsf H hs.base) ?_;refine U6 ?_;refine Tc.GA ZM (i:=0) rfl (.inl ⟨rfl,rfl⟩) (fun H' hs=> q H' H₄ _ hs ⟨rfl,q2,q3,q4⟩)
   ·rintro r H₄ _ ⟨rfl,q2,q3,q4⟩;have e1:k.spare n sf=none:=q2;rw[ev,e1] at hK;refine U7 ?_;refine Tc.aT (E:=en) (i:=0) hK func57 results57 (vs:= [_,_,_]) rfl (by refine⟨⟨4,_,_,_,_,_,_,_,rfl,rfl,rfl,rfl⟩,?_⟩;refine⟨⟨3,_,_,_,_,_,_,_,rfl,rfl,rfl,rfl⟩,?_⟩;refine⟨⟨2,_,_,_,_,_,_,_,rfl,rfl,rfl,rfl⟩,?_⟩;exact trivial) ?_;exact fun H' hs=> ⟨View.le_trans TE (View.le_trans q4 hs.base),rfl⟩
   ·rintro r j H₄ _ ⟨x,rfl,rfl,q2,q4⟩;rw[ev,q2] at hK;refine Tc.aT (E:=en) (i:=0) hK func57 results57 (vs:= [_,_,_]) rfl (by refine⟨⟨4,_,_,_,_,_,_,_,rfl,rfl,rfl,rfl⟩,?_⟩;refine⟨⟨3,_,_,_,_,_,_,_,rfl,rfl,rfl,rfl⟩,?_⟩;refine⟨⟨2,_,_,_,_,_,_,_,rfl,rfl,rfl,rfl⟩,?_⟩;exact trivial) ?_;exact fun H' hs=> ⟨View.le_trans TE (View.le_trans q4 hs.base),rfl⟩
  ·have ev:k.aJ z sf=uG [] false 1:=by
    unfold Bk.aJ;rw[if_neg (by simp[ha]),if_pos c1]
   have hbt:=fun(H':View)=> zA M H' z 1 3 false (decide_eq_false c1);rw[ev];refine .en func57 ntmps57 fun St c cs hK=> ?_;refine U2 ?_;refine .bo fun b3=> ?_;refine .bo fun b5=> ?_;refine .al fun b6=> ?_;refine .al fun b7=> ?_;refine .al fun b8=> ?_;refine U4 ?_;refine .cl (fun H hs=> lA H hs.base) ?_;refine U3 ?_;refine .al fun b9=> ?_;refine XP ?_;refine .cl (fun H hs=> hbt H) ?_;refine lD ?_;refine .rt hK func57 results57 [_,_,_] ?_;exact okB
 ·have ev:k.aJ z sf=uG [] false k.WA:=if_pos ha;rw[ev];refine .en func57 ntmps57 fun St c cs hK=> ?_;refine U2 ?_;refine .bo fun b3=> ?_;refine .bo fun b5=> ?_;refine .al fun b6=> ?_;refine .al fun b7=> ?_;refine .al fun b8=> ?_;refine U4 ?_;refine .cl (fun H hs=> wK M H k A lc B tc true (hk.le hs.base) hn (IA hG hs.base) ha) ?_;refine U3 ?_;refine .al fun b9=> ?_;refine CG ?_;refine Tc.drE [3] [1,2,3] [2,3] mixed rfl ?_;refine .nn 0 ?_;refine .ea 1 rfl (.st 3 (zz:=⟨S2.mk sL (.inr sL),?_⟩));refine .ea 2 rfl (.st 2 (zz:=⟨S2.mk sL (.inr sL),?_⟩));refine .e 3 1 ?_;refine .dn ?_;refine .rt hK func57 results57 [_,_,_] ?_;exact okB
end
end Go.Proofs.YtldmfjcgjdchcaaGreatDoor
namespace Go.RL
open Go.Conc
section
variable {P:Program}{E:Env P}{M:Md P}{n:Nat}{H₀:View}{R:Rg}{L:Bl}{o:Oper}{K:Rg->Bl->Prop}{d:Nat}
theorem Gl.kO {e:TypeId}{sz:Nat}(g:Gl e sz):(g.bl.map (·.1)).Nodup:=by
 unfold Gl.bl;split <;> simp
theorem Or.bY(k:Nat){cl:Go.Call}{x y:Operand}{t xt e:TypeId}{sz m:Nat}{yv:Value}{new:List Value}{g:Gl e sz}{r re rx:EA}{ex:TypeId}(lA:o.op=.call cl)(nB:cl.callee=.builtin .append)(vH:cl.argTypes=#[t,xt])(DH:cl.args=#[x,y])
  (hx:JA R x=some g.val) (hy:JA R y=some yv) (ht:E.ty t=some r) (SB:r.ds=.slice e) (kD:E.ty e=some re) (AD:re.size=sz) (KU:Nat.beq re.zero.cells.toList.length sz=true) (yS:E.ty xt=some rx) (hex:rx.ds=.slice ex) (JW:Nat.ble re.bytes 1000=true)
  (hL:L.drop k=g.bl) (jG:∀H,gA H₀ L H->OA H sz yv m new) (hs:new.all single=true) (hm:g.n+m<=1000000000) (hd:o.dst=some d) (hn:d<n)
  (m8:∀g':Gl e sz,g'.n=g.n+m->g'.l=g.l++new->g'.blk=g.blk->g'.cap=g.cap->K ((d,g'.val)::R) (L.take k++g'.bl))
  (QW:∀g':Gl e sz,g'.n=g.n+m->g'.l=g.l++new->K ((d,g'.val)::R) (L++g'.bl)):Or M n H₀ R L o K:=
 .val hd hn fun H tmps IB hr=> by
  have hLe:L=L.take k++g.bl:=by rw[<-hL,List.take_append_drop]
  have wS:=IB;unfold execOp;rw[lA];simp only[resolve,nB,vH,DH];have SW:Array.map (fC tmps) #[x,y]=#[g.val,yv]:=by simp[hr.ev hx,hr.ev hy]
  rw[SW];rw[hLe] at IB;refine aA (Builtin.append_ #[t,xt] o.type #[g.val,yv]) _ ?_;refine yN ht SB kD AD (Nat.eq_of_beq_eq_true KU) ⟨rx,ex,yS,hex⟩ (Nat.le_of_ble_eq_true JW) hm (fun z hz=> IB.at_ z (by simp[hz])) (jG H wS) hs fun g' H' h1 h2 h3 h4 h5=> ?_;cases hb:g'.blk with
  | none=>
   have YJ:g'.bl= []:=by unfold Gl.bl;rw[hb]
   have hHH:H'=H:=funext fun c=> h4 c (fun b EH=> by rw[hb] at EH;cases EH);subst hHH;refine⟨_,rfl,L,wS,?_⟩;have:=QW g' h1 h2
   rwa [YJ,List.append_nil] at this
  | some b=>
   rcases h3 b hb with ⟨h6,h7⟩|h6
   ·exact⟨_,rfl,_,IB.grown (fun b EH=> (h3 b EH).imp And.left id) h4 h5,m8 g' h1 h2 (hb.trans h6.symm) h7⟩
   ·have YJ:g'.bl= [(b,true,.cells ⟨g'.l++g'.qB⟩ e (0,0))]:=by unfold Gl.bl;rw[hb]
    have hle:H.le H':=fun c z hc=> by
     rw[h4 c (fun b' JO=> by
      rw[hb] at JO;cases JO
      rintro rfl;rw[h6] at hc;cases hc)]
     exact hc
    refine⟨_,rfl,_,wS.more hle g'.kO (fun y hy=> ⟨h5 y hy,?_⟩),QW g' h1 h2⟩;rw[YJ,List.mem_singleton] at hy;subst hy;exact h6
end
end Go.RL
