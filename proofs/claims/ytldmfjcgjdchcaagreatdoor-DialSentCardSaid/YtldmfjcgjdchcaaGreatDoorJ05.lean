/-
 Texts of the proofs over baudot/dial.
-/
import Derived.Test.YtldmfjcgjdchcaaGreatDoorJ04
namespace Go.Proofs.YtldmfjcgjdchcaaGreatDoor
open Go.RL Go.Proofs.Tryz
set_option maxRecDepth 10000
set_option maxHeartbeats 16000000
theorem none_le {H H':View}(h:H.le H'){b:Nat}(hb:H' b=none):H b=none:=by
 cases e:H b with
 | none=> rfl
 | some x=> rw[h _ _ e] at hb;cases hb
def Bk.mB(k:Bk)(z:Int):Int:=if z∈k.qH then if k.qH.length=1 then 1 else 0 else 2
theorem Bk.CW(k:Bk)(z:Int):0<=k.mB z/\k.mB z<=2:=by
 unfold Bk.mB;split
 ·split <;> omega
 ·omega
def VV(f:Nat->Int)(n:Nat):List Value:=(List.range n).map fun i=> .int .i64 (f i)
theorem Y3(f:Nat->Int)(n:Nat):VV f (n+1)=VV f n++[.int .i64 (f n)]:=by
 unfold VV;rw[List.range_succ,List.map_append];rfl
theorem K9(f:Nat->Int)(n:Nat):(VV f n).length=n:=by simp[VV]
def HX(g:Gl 110 1)(c a:Int):Value:=.tuple ⟨[g.val,.int .i64 c,.int .i64 a]⟩
def Bk.RF(k:Bk)(line:Nat):Nat->Int
 | 0=> k.mB (line:Nat)
 | i+1=> lI (k.RF line i) (if k.free line i=0 then 0 else if k.free line i=1 then 2 else 1)
def Bk.jG(k:Bk)(line i:Nat):Int:=lI (k.RF line i) (k.free line i)
section
variable(M:Md prog)(H:View)
theorem yM(k:Bk)(z:Int)(m:Nat)(es:Array MapEntry)(cl:Nat)(f:Bool)(hm:H m=some (f,.map es cl))(dC:vB es cl (zI k.JX)):
  aA M 123 #[.map (some m),.int .i64 z] H (fun v H'=> H.le H'/\v=.int .i64 (k.mB z)):=by
 refine L9 M H k.JX z m es cl f hm dC _ ?_;have h1:=Bk.IP dC;have h2:=k.IL z;unfold Bk.mB;by_cases c1:z∈k.qH
 ·rw[if_pos c1];by_cases c2:k.qH.length=1
  ·rw[if_pos c2];exact .inr (.inl ⟨h2.1 c1,oM,rfl⟩)
  ·rw[if_neg c2];exact .inr (.inr ⟨h2.1 c1,oM,rfl⟩)
 ·rw[if_neg c1];exact .inl ⟨fun h=> c1 (h2.2 h),rfl⟩
theorem pM(k:Bk)(A:Option Addr)(lc:Nat)(B:Option Addr)(tc:Nat)(hk:GD H k A lc B tc)(hn:k.small)(hG:HC H)(ha:k.VA=0):
  aA M 50 #[k.val A lc B tc] H (fun v H'=> H.le H'/\∃g:Gl 110 1,v=HX g (k.mB (-1)) 0/\(g.n=k.nl/\g.l=VV (fun i=> k.mB (i:Nat)) k.nl)/\∀x∈g.bl,H' x.1=some x.2/\H x.1=none):=by
 obtain⟨_,mQ,JM,dC⟩:=Bk.valid ha;have qA:=fun(H':View) (h':H.le H')=> FC M H' k A lc B tc (hk.le h') hn (EA hG h') ha;refine .en func50 ntmps50 fun St c cs hK=> ?_;refine U2 ?_;refine .bo fun b1=> ?_;refine U7 ?_;refine .cl (fun H hs=> qA H hs.base) ?_;refine U3 ?_;refine .al fun b5=> ?_;refine lF ?_;refine To.sB rfl rfl rfl rfl rfl rfl dE (CB.h (XJ M H k A lc B tc hk.rows hn.nl hk.UD dC JM)) (fun v H₂ hv=> ?_);obtain⟨hle,m,es,cl,rfl,⟨fm,q3⟩,q4⟩:=hv;refine YD ?_;refine Tc.db (Tc.sA (σ:= { s:Nat×Gl 110 1//s.1<=k.nl/\s.2.n=s.1/\s.2.l=VV (fun i=> k.mB (i:Nat)) s.1 })
  (fun s=> ([(1,.pointer (some ⟨b1,0,none⟩)),(2,s.1.2.val),(5,.pointer (some ⟨b5,0,none⟩)),(6,.map (some m)),(20,.int .i64 (k.nl:Nat)),(21,.int .i64 (s.1.1:Nat))],[(b5,true,.cells ⟨(k.val A lc B tc).cells.toList⟩ 166 (0,0)),(b1,true,.cells ⟨(k.val A lc B tc).cells.toList⟩ 45 (0,0))]++s.1.2.bl)) (fun s=> k.nl-s.1.1) ?_ ⟨(0,Gl.nil 110 1),Nat.zero_le _,rfl,rfl⟩)
 rintro⟨⟨j,g⟩,p1,p2,p3⟩ ih;simp only at p1 p2 p3;show Tc M St _ _ _ _ [(1,.pointer (some ⟨b1,0,none⟩)),(2,g.val),(5,.pointer (some ⟨b5,0,none⟩)),(6,.map (some m)),(20,.int .i64 (k.nl:Nat)),(21,.int .i64 (j:Nat))] ([(b5,true,.cells ⟨(k.val A lc B tc).cells.toList⟩ 166 (0,0)),(b1,true,.cells ⟨(k.val A lc B tc).cells.toList⟩ 45 (0,0))]++g.bl) _ _;by_cases c1:j=k.nl
 ·subst c1;refine YD ?_;refine .cl (fun H hs=> yM M H k (-1) m es cl fm (hs.base _ _ q3) q4) ?_;refine U4 ?_;refine .rt hK func50 results50 [_,_,_] ?_;exact fun H' hs=> ⟨View.le_trans hle hs.base,g,rfl,⟨p2,p3⟩,fun x hx=> ⟨hs.at_ x (by simp[hx]),none_le hle (hs.out x (by simp[hx]))⟩⟩
 ·have c2:j<k.nl:=by omega
  refine hY ?_;refine .cl (fun H hs=> yM M H k (j:Nat) m es cl fm (hs.base _ _ q3) q4) ?_;refine .e (.bs (zz:=fun bs=> ?_));refine .e (Or.append (E:=en) 3 rfl rfl rfl rfl rfl rfl rfl rfl rfl rfl rfl rfl rfl rfl rfl (fun H hs=> UA.of (hs.get (i:=0) rfl) (Nat.le_of_ble_eq_true rfl)) rfl oM rfl dE (fun g' aW xN=> ?_));refine U7 ?_;exact Tc.db (ih ⟨(j+1,g'),by simp only;omega,by simp only;omega,by simp only;rw[xN,p3,Y3];rfl⟩ (by simp only;omega))
end
theorem uN {f:Nat->Int}:∀n,DC f n=0->∀i,i<n->f i=0
 | 0,_,i,hi=> by omega
 | n + 1,h,i,hi=> by
  rw[DC] at h;split at h
  ·rename_i h0
   by_cases e:i=n
   ·subst e;exact h
   ·exact uN n h0 i oM
  ·rename_i h0
   exact(h0 h).elim
theorem Bk.QY {k:Bk}(h:k.VA=0){i:Nat}(hi:i<k.nl):mK (k.name i)=true/\k.again i=false/\isNum (k.num i)=true/\(k.pre i).clash (k.num i)=false/\(1<=k.nf i/\k.nf i<=4)/\∀j,j<k.nf i->0<=k.free i j/\k.free i j<=2:=by
 obtain⟨_,h2,_⟩:=Bk.pW h;unfold Bk.OD at h2;split at h2
 ·cases h2
 ·have h3 :=uN _ h2 i hi;unfold Bk.iC at h3;split at h3
  ·cases h3
  ·rename_i q0
   split at h3
   ·cases h3
   ·rename_i q1
    split at h3
    ·cases h3
    ·rename_i q2
     split at h3
     ·cases h3
     ·rename_i q3
      split at h3
      ·cases h3
      ·rename_i q4
       split at h3
       ·cases h3
       ·rename_i q5
        have q4':=of_decide_eq_true (Bool.not_eq_false _▸q4:decide _=true);refine⟨by simpa using q0,by simpa using q1,by simpa using q2,by simpa using q3,oM,fun j hj=> ?_⟩;unfold Bk.TH at q5;have h4:pA (fun j=> !aE (k.free i j)) (k.nf i)=none:=by
         cases hz:pA (fun j=> !aE (k.free i j)) (k.nf i) with
         | none=> rfl
         | some y=> rw[hz] at q5;exact(q5 rfl).elim
        have h5:=(MB _).1 h4 j hj;unfold aE at h5;simpa using h5
theorem GH {sz off d:Nat}{gs c:List Value}(h:BC true sz gs off=some (.agg ⟨c⟩))(hd:d<sz):BC false 1 gs (off+d)=c[d]? :=by
 obtain⟨h1,h2⟩:=qP h;simp only[Value.agg.injEq,Array.mk.injEq] at h2;show gs[_]? =_;rw[h2,List.getElem?_take,if_pos hd,List.getElem?_drop]
def tkL(k:Bk)(line j:Nat):List Value:=(List.range 4).map fun i=> .int .i64 (if i<j then k.jG line i else 0)
theorem aDO(k:Bk)(line j:Nat)(hj:j<4):yE (tkL k line j) (0+((j:Nat):Int).toNat*1) [.int .i64 (k.jG line j)]=tkL k line (j+1):=by
 rcases(by omega:j=0\/j=1\/j=2\/j=3) with rfl|rfl|rfl|rfl <;> rfl
theorem aAT(k:Bk)(line n:Nat)(hn:n<=4){H:View}{b:Nat}{f:Bool}{gt:TypeId}{gz:Nat×Nat}(hb:H b=some (f,.cells ⟨tkL k line n⟩ gt gz)):UA H 1 (.slice (some ⟨b,0,none⟩) n 4) n (VV (k.jG line) n):=by
 have h:=UA.of (sz:=1) (m:=n) (c:=4) (off:=0) hb (by simp[tkL];omega);have e:((tkL k line n).drop 0).take (n*1)=VV (k.jG line) n:=by
  rcases(by omega:n=0\/n=1\/n=2\/n=3\/n=4) with rfl|rfl|rfl|rfl|rfl <;> rfl
 rw[e] at h;exact h
theorem zW(f:Nat->Int)(n:Nat):(VV f n).all single=true:=by
 rw[List.all_eq_true];intro x hx;obtain⟨i,_,rfl⟩:=List.mem_map.1 hx;rfl
section
variable(M:Md prog)(H:View)
theorem m9(k:Bk)(A:Option Addr)(lc:Nat)(B:Option Addr)(tc:Nat)(hk:GD H k A lc B tc)(hn:k.small)(hG:HC H)(ha:k.VA=0)(line:Nat)(hl:line<k.nl):
  aA M 54 #[k.val A lc B tc,.int .i64 (line:Nat)] H (fun v H'=> H.le H'/\∃g:Gl 110 1,v=HX g (k.RF line (k.nf line)) 0/\(g.n=k.nf line/\g.l=VV (k.jG line) (k.nf line))/\∀x∈g.bl,H' x.1=some x.2/\H x.1=none):=by
 obtain⟨_,mQ,JM,dC⟩:=Bk.valid ha;obtain⟨_,_,_,_,OZ,P1⟩:=Bk.QY ha hl;have hb:=fun(H':View)=> CA M H' ((line:Nat):Int) 0 ((k.nl:Int)-1) true (decide_eq_true oM);have qA:=fun(H':View) (h':H.le H')=> FC M H' k A lc B tc (hk.le h') hn (EA hG h') ha;have sU:=hk.rows;obtain⟨_,h0|⟨ab,ao,fa,gs,gt,gz,rfl,pI,E5⟩⟩:=sU
 ·omega
 obtain⟨F,fc,f1,hfc,hF⟩:=E5 line hl;have f2:BC false 1 gs (ao+((line:Nat):Int).toNat*3+2)=some (.slice F (k.nf line) fc):=GH f1 dE;obtain h0|⟨fb,fo,ff,fs,ft,fz,rfl,hfb,hfl⟩:=hF
 ·omega
 obtain⟨_,fg,gt1,gz1,B8⟩:=hG;refine .en func54 ntmps54 fun St c cs hK=> ?_;refine U2 ?_;refine .bo fun b2=> ?_;refine U5 ?_;refine Tc.dr [12] [] mixed rfl ?_;refine V6 0 ?_;refine .z 6 rfl (xA.tk fun H hs=> hb H) ?_;refine .z 7 rfl (xA.tk fun H hs=> qA H hs.base) ?_;refine V2 8 ?_;refine .nw 10 ?_;refine .ea 11 rfl (.al (zz:=fun b7=> ⟨S2.mk sL (.inr sL),?_⟩));refine .e 12 0 ?_;refine .nw 13 ?_;refine .dn ?_;refine UC ?_;refine .al fun b8=> ?_;refine U4 ?_;refine To.sB rfl rfl rfl rfl rfl rfl dE (CB.h (XJ M H k (some ⟨ab,ao,none⟩) lc B tc hk.rows hn.nl hk.UD dC JM)) (fun v H₂ hv=> ?_);obtain⟨hle,m,es,cl,rfl,⟨fm,q3⟩,q4⟩:=hv;have aGV:=hle _ _ pI;have aGZ:=hle _ _ hfb;have YN:=hle _ _ B8;refine U ?_;refine .cl (fun H hs=> yM M H k (line:Nat) m es cl fm (hs.base _ _ q3) q4) ?_;refine QR ?_;refine Tc.db (Tc.sA (σ:= { j:Nat//j<=k.nf line }) (fun j=> ([(2,.pointer (some ⟨b2,0,none⟩)),(4,.slice none 0 0),(5,.int .i64 (k.RF line j.1)),(7,.pointer (some ⟨b7,0,none⟩)),(8,.pointer (some ⟨b8,0,none⟩)),(9,.slice (some ⟨fb,fo,none⟩) (k.nf line) fc),(36,.slice (some ⟨fb,fo,none⟩) (k.nf line) fc),(37,.int .i64 (k.nf line:Nat)),(38,.int .i64 (j.1:Nat))],
  [(b8,true,.cells ⟨tkL k line j.1⟩ 240 (0,0)),(b7,true,.cells ⟨(k.val (some ⟨ab,ao,none⟩) lc B tc).cells.toList⟩ 166 (0,0)),(b2,true,.cells ⟨(k.val (some ⟨ab,ao,none⟩) lc B tc).cells.toList⟩ 45 (0,0))])) (fun j=> k.nf line-j.1) ?_ ⟨0,Nat.zero_le _⟩)
 rintro⟨j,hj⟩ ih;show Tc M St _ _ _ _ [(2,.pointer (some ⟨b2,0,none⟩)),(4,.slice none 0 0),(5,.int .i64 (k.RF line j)),(7,.pointer (some ⟨b7,0,none⟩)),(8,.pointer (some ⟨b8,0,none⟩)),(9,.slice (some ⟨fb,fo,none⟩) (k.nf line) fc),(36,.slice (some ⟨fb,fo,none⟩) (k.nf line) fc),(37,.int .i64 (k.nf line:Nat)),(38,.int .i64 (j:Nat))]
  [(b8,true,.cells ⟨tkL k line j⟩ 240 (0,0)),(b7,true,.cells ⟨(k.val (some ⟨ab,ao,none⟩) lc B tc).cells.toList⟩ 166 (0,0)),(b2,true,.cells ⟨(k.val (some ⟨ab,ao,none⟩) lc B tc).cells.toList⟩ 45 (0,0))] _ _
 by_cases c1:j=k.nf line
 ·subst c1;refine SE ?_;refine .x (xA.OX (E:=en) (off':=0) rfl rfl rfl rfl rfl rfl rfl rfl oM oM oM (by rw[if_neg dE];rfl)) ?_;refine .e (Or.append (E:=en) (g:=Gl.nil 110 1) (m:=k.nf line) (new:=VV (k.jG line) (k.nf line)) (yv:=.slice (some ⟨b8,0,none⟩) (k.nf line) 4) 3 rfl rfl rfl rfl rfl rfl rfl rfl rfl rfl rfl rfl rfl rfl rfl (fun H hs=> aAT k line (k.nf line) OZ.2 (hs.get (i:=0) rfl)) (zW _ _) (by show 0+k.nf line<=_;omega) rfl dE (fun g' aW xN=> ?_));refine U5 ?_;refine .rt hK func54 results54 [_,_,_] ?_;exact fun H' hs=> ⟨View.le_trans hle hs.base,g',rfl,⟨by rw[aW];exact Nat.zero_add _,by rw[xN];rfl⟩,fun x hx=> ⟨hs.at_ x (by simp[hx]),none_le hle (hs.out x (by simp[hx]))⟩⟩
 ·have c2:j<k.nf line:=by omega
  have f3:=hfl j c2;have hfj:=P1 j c2;obtain⟨nz,hnz⟩:∃z,(if k.free line j=0 then 0 else if k.free line j=1 then 2 else 1:Int)=z:=⟨_,rfl⟩
  have f4:BC false 1 [Value.int .i64 0,.int .i64 2,.int .i64 1] (0+(k.free line j).toNat*1)=some (.int .i64 nz):=by
   rw[<-hnz];rcases(by omega:k.free line j=0\/k.free line j=1\/k.free line j=2) with h|h|h <;> rw[h] <;> rfl
  have f5:Nat.ble (0+((j:Nat):Int).toNat*1+1) (tkL k line j).length=true:=by
   refine Nat.ble_eq_true_of_le ?_;rw[Int.toNat_natCast];simp[tkL]
   omega
  have f6:=aDO k line j oM;have en1:k.RF line (j+1)=lI (k.RF line j) nz:=by rw[Bk.RF,hnz]
  refine BI ?_;refine Tc.dr [10] [0] mixed rfl ?_;refine V3 0 ?_;refine .z 3 rfl (xA.tk fun H hs=> aA2 M H (k.RF line j) (k.free line j)) ?_;refine .nw 4 ?_;refine .nw 5 ?_;refine .nw 6 ?_;refine .nn 7 ?_;refine .z 8 rfl (xA.tk fun H hs=> aA2 M H (k.RF line j) nz) ?_;refine .nn 9 ?_;refine .e 10 0 ?_;refine .nw 11 ?_;refine .dn ?_;refine U5 ?_;refine Tc.gC (ih ⟨j+1,oM⟩ (by simp only;omega)) ?_ ?_
  ·simp only[en1];exact⟨rfl,rfl,rfl,rfl,rfl,rfl,rfl,rfl,rfl,trivial⟩
  ·exact sL
end
theorem VB.bk {H:View}{k:Bk}{A:Option Addr}{lc:Nat}{B:Option Addr}{tc:Nat}{F:Nat->Option Addr}{fc:Nat->Nat}(h:VB H k A lc B tc F fc):GD H k A lc B tc:=⟨h.j7,h.bQ⟩
def aA3(x:Value)(a:Int):Value:=.tuple ⟨[x,.int .i64 a]⟩
def s6(a:Int):Value:=aA3 (bk0.val none 0 none 0) a
def imax(a b:Int):Int:=if a<b then b else a
def BL(a b:Int):Int:=if b<a then b else a
def Bk.w6(k:Bk)(t:Nat)(a b c' d:Int):Bool:=ZA (imax (k.pf t) a) (BL (k.pt t) b) (imax (k.qf t) c') (BL (k.qt t) d)
def Bk.now(k:Bk)(t:Nat)(a b c' d:Int):Bk:=k.with t (imax (k.pf t) a) (BL (k.pt t) b) (imax (k.qf t) c') (BL (k.qt t) d)
section
variable(M:Md prog)(H:View)
theorem aBs(k:Bk)(A:Option Addr)(lc:Nat)(B:Option Addr)(tc:Nat)(hk:GD H k A lc B tc)(hn:k.small)(hG:HC H)(ha:k.VA=0)(t:Nat)(ht:t<k.nt)(a b c' d:Int)(hx:ZA a b c' d=false):
  aA M 53 #[k.val A lc B tc,.int .i64 (t:Nat),TD a b c' d] H (fun v H'=> H.le H'/\v=s6 1):=by
 have JM:=hn.nt;have hb:=fun(H':View)=> CA M H' ((t:Nat):Int) 0 ((k.nt:Int)-1) true (decide_eq_true oM);refine .en func53 ntmps53 fun St c cs hK=> ?_;refine U2 ?_;refine .bo fun b3=> ?_;refine .bo fun b5=> ?_;refine .al fun b6=> ?_;refine U3 ?_;refine Tc.dr [12] [] mixed rfl ?_;refine V6 0 ?_;refine .z 6 rfl (xA.tk fun H hs=> hb H) ?_;refine .z 7 rfl (xA.tk fun H hs=> FC M H k A lc B tc (hk.le hs.base) hn (EA hG hs.base) ha) ?_;refine V2 8 ?_;refine .nw 10 ?_;refine .ea 11 rfl (.al (zz:=fun b8=> ⟨S2.mk sL (.inr sL),?_⟩));refine .e 12 0 ?_;refine .nw 13 ?_;refine .dn ?_;refine SE ?_;refine .cl (fun H hs=> eG (qF M H a b c' d) hx) ?_;refine UC ?_;refine .rt hK func53 results53 [_,_] ?_;exact okB
theorem p8(k:Bk)(A:Option Addr)(lc:Nat)(B:Option Addr)(tc:Nat)(hk:GD H k A lc B tc)(hn:k.small)(hG:HC H)(ha:k.VA=0)(t:Nat)(ht:t<k.nt)(a b c' d:Int)(hx:ZA a b c' d=true)(hy:k.w6 t a b c' d=false):
  aA M 53 #[k.val A lc B tc,.int .i64 (t:Nat),TD a b c' d] H (fun v H'=> H.le H'/\v=s6 10):=by
 have JM:=hn.nt;have hb:=fun(H':View)=> CA M H' ((t:Nat):Int) 0 ((k.nt:Int)-1) true (decide_eq_true oM);have hT:=hk.UD;obtain⟨_,h0|⟨tb,to,ft,gs,gt,gz,rfl,htb,hl⟩⟩:=hT
 ·omega
 have f1:=hl t ht;refine .en func53 ntmps53 fun St c cs hK=> ?_;refine U2 ?_;refine .bo fun b3=> ?_;refine .bo fun b5=> ?_;refine .al fun b6=> ?_;refine U3 ?_;refine Tc.dr [12] [] mixed rfl ?_;refine V6 0 ?_;refine .z 6 rfl (xA.tk fun H hs=> hb H) ?_;refine .z 7 rfl (xA.tk fun H hs=> FC M H k A lc (some ⟨tb,to,none⟩) tc (hk.le hs.base) hn (EA hG hs.base) ha) ?_;refine V2 8 ?_;refine .nw 10 ?_;refine .ea 11 rfl (.al (zz:=fun b8=> ⟨S2.mk sL (.inr sL),?_⟩));refine .e 12 0 ?_;refine .nw 13 ?_;refine .dn ?_;refine SE ?_;refine .cl (fun H hs=> eG (qF M H a b c' d) hx) ?_;refine ZF ?_;refine .al fun b10=> ?_;refine U3 ?_;refine Tc.dr [12] [] mixed rfl ?_;refine V4 0 ?_;refine .z 4 rfl (xA.tk fun H hs=> YR M H (k.pf t) (k.pt t) a b (imax (k.pf t) a) (BL (k.pt t) b) rfl rfl) ?_;refine V4 5 ?_;refine .z 9 rfl (xA.tk fun H hs=> YR M H (k.qf t) (k.qt t) c' d (imax (k.qf t) c') (BL (k.qt t) d) rfl rfl) ?_;refine .nn 10 ?_;refine .ea 11 rfl (.al (zz:=fun b11=> ⟨S2.mk sL (.inr sL),?_⟩));refine .e 12 0 ?_;refine .dn ?_;refine U4 ?_;refine .cl (fun H hs=> eG (qF M H (imax (k.pf t) a) (BL (k.pt t) b) (imax (k.qf t) c') (BL (k.qt t) d)) hy) ?_;refine U9 ?_;refine .rt hK func53 results53 [_,_] ?_;exact okB
theorem I2(k:Bk)(A:Option Addr)(lc:Nat)(B:Option Addr)(tc:Nat)(F:Nat->Option Addr)(fc:Nat->Nat)(hB:VB H k A lc B tc F fc)(hn:k.small)(hG:HC H)(ha:k.VA=0)(t:Nat)(ht:t<k.nt)(a b c' d:Int)(hx:ZA a b c' d=true)(hy:k.w6 t a b c' d=true):
  aA M 53 #[k.val A lc B tc,.int .i64 (t:Nat),TD a b c' d] H (fun v H'=> H.le H'/\∃A' lc' B' tc' F' fc',v=aA3 ((k.now t a b c' d).val A' lc' B' tc') 0/\VB H' (k.now t a b c' d) A' lc' B' tc' F' fc'):=by
 have hk:=hB.bk;have JM:=hn.nt;have hb:=fun(H':View)=> CA M H' ((t:Nat):Int) 0 ((k.nt:Int)-1) true (decide_eq_true oM);have hT:=hk.UD;obtain⟨_,h0|⟨tb,to,ft,gs,gt,gz,rfl,htb,hl⟩⟩:=hT
 ·omega
 have f1:=hl t ht;refine .en func53 ntmps53 fun St c cs hK=> ?_;refine U2 ?_;refine .bo fun b3=> ?_;refine .bo fun b5=> ?_;refine .al fun b6=> ?_;refine U3 ?_;refine Tc.dr [12] [] mixed rfl ?_;refine V6 0 ?_;refine .z 6 rfl (xA.tk fun H hs=> hb H) ?_;refine .z 7 rfl (xA.tk fun H hs=> FC M H k A lc (some ⟨tb,to,none⟩) tc (hk.le hs.base) hn (EA hG hs.base) ha) ?_;refine V2 8 ?_;refine .nw 10 ?_;refine .ea 11 rfl (.al (zz:=fun b8=> ⟨S2.mk sL (.inr sL),?_⟩));refine .e 12 0 ?_;refine .nw 13 ?_;refine .dn ?_;refine SE ?_;refine .cl (fun H hs=> eG (qF M H a b c' d) hx) ?_;refine ZF ?_;refine .al fun b10=> ?_;refine U3 ?_;refine Tc.dr [12] [] mixed rfl ?_;refine V4 0 ?_;refine .z 4 rfl (xA.tk fun H hs=> YR M H (k.pf t) (k.pt t) a b (imax (k.pf t) a) (BL (k.pt t) b) rfl rfl) ?_;refine V4 5 ?_;refine .z 9 rfl (xA.tk fun H hs=> YR M H (k.qf t) (k.qt t) c' d (imax (k.qf t) c') (BL (k.qt t) d) rfl rfl) ?_;refine .nn 10 ?_;refine .ea 11 rfl (.al (zz:=fun b11=> ⟨S2.mk sL (.inr sL),?_⟩));refine .e 12 0 ?_;refine .dn ?_;refine U4 ?_;refine .cl (fun H hs=> eG (qF M H (imax (k.pf t) a) (BL (k.pt t) b) (imax (k.qf t) c') (BL (k.qt t) d)) hy) ?_;refine U9 ?_;refine To.sB rfl rfl rfl rfl rfl rfl dE (CB.h (m8 M H k A lc (some ⟨tb,to,none⟩) tc F fc hB hn.nl hn.nt (fun i hi=> (hn.num i hi).2) t ht (imax (k.pf t) a) (BL (k.pt t) b) (imax (k.qf t) c') (BL (k.qt t) d))) (fun v H₅ hv=> ?_);obtain⟨fX,A',lc',B',tc',F',fc',rfl,hB'⟩:=hv;refine U4 ?_;refine .rt hK func53 results53 [_,_] ?_;exact fun H' hs=> ⟨View.le_trans fX hs.base,A',lc',B',tc',F',fc',rfl,hB'.le hs.base⟩
end
end Go.Proofs.YtldmfjcgjdchcaaGreatDoor
namespace Go.RL
open Go.Conc
section
variable {P:Program}{E:Env P}{M:Md P}{n:Nat}{H₀:View}{R:Rg}{L L':Bl}{K:Rg->Bl->Prop}{o:Oper}{d:Nat}{v:Value}
end
end Go.RL
namespace Go.Proofs.YtldmfjcgjdchcaaGreatDoor
open Go.RL Go.Proofs.Tryz
set_option maxRecDepth 10000
set_option maxHeartbeats 8000000
section
variable(M:Md prog)(H:View)
end
end Go.Proofs.YtldmfjcgjdchcaaGreatDoor
namespace Go.RL
open Go.Conc
section
variable {P:Program}{E:Env P}{M:Md P}{n:Nat}{H₀:View}{R:Rg}{L L':Bl}{K:Rg->Bl->Prop}{o:Oper}{d:Nat}{v:Value}
structure Xt(P:Program)(f:FuncId)(e:Array Value->Sem Value):Prop where
 ex:∃fn,P.funcs[f]? =some fn/\(fn.name== "runtime.NumGoroutine")=false/\fn.body.isNone=true/\Extern.findNext fn=none/\Extern.find fn=some e
end
section
variable {P:Program}{E:Env P}{M:Md P}{n:Nat}{H₀:View}{R:Rg}{L L':Bl}{o:Oper}{K:Rg->Bl->Prop}{d:Nat}
end
end Go.RL
namespace Go.Proofs.YtldmfjcgjdchcaaGreatDoor
open Go.RL Go.Proofs.Tryz
set_option maxRecDepth 10000
set_option maxHeartbeats 16000000
def pn(x:UInt8):Nat:=if x.toNat=48 then 10 else x.toNat-48
theorem S6 {x:UInt8}(h:TE x=true):1<=pn x/\pn x<=10:=by
 have:=of_decide_eq_true h;unfold pn;split <;> omega
def yQ(s:List UInt8)(i:Nat):Nat:=pn (s[i]?.getD 48)
def slip(s:List UInt8)(i m:Nat):List UInt8:=s.take i++[wI m]++s.drop (i+1)
def tJ(s:List UInt8)(i m:Nat):List (List UInt8):=if 1<=m/\m<=10 then [slip s i m] else []
def dI(s:List UInt8)(i:Nat):List (List UInt8):=tJ s i (yQ s i-1)++tJ s i (yQ s i+1)
def xC(s:List UInt8)(i:Nat):List (List UInt8):=(List.range' i (s.length-i)).flatMap (dI s)
def rH(s:List UInt8):List (List UInt8):=xC s 0
theorem uJ {s:List UInt8}{i:Nat}(h:i<s.length):xC s i=dI s i++xC s (i+1):=by
 unfold xC;rw[show s.length-i=(s.length-(i+1))+1 by omega];rfl
theorem zK {s:List UInt8}{i:Nat}(h:s.length<=i):xC s i= []:=by
 unfold xC;rw[show s.length-i=0 by omega];rfl
theorem xQ {s x:List UInt8}{i:Nat}:x∈xC s i<->∃j,i<=j/\j<s.length/\x∈dI s j:=by
 unfold xC;simp only[List.mem_flatMap,List.mem_range'_1];constructor
 ·rintro⟨j,h1,h2⟩;exact⟨j,h1.1,oM,h2⟩
 ·rintro⟨j,h1,h2,h3⟩;exact⟨j,⟨h1,oM⟩,h3⟩
def RP(s:List UInt8)(i j:Nat):Nat:=if j=0 then yQ s i-1 else yQ s i+1
def xE(s:List UInt8)(i j:Nat):List (List UInt8):=(if j=0 then tJ s i (yQ s i-1) else [])++((if j<=1 then tJ s i (yQ s i+1) else [])++xC s (i+1))
theorem zQ(s:List UInt8)(i j:Nat)(h:j<2):xE s i j=tJ s i (RP s i j)++xE s i (j+1):=by
 rcases(by omega:j=0\/j=1) with rfl|rfl
 ·simp[xE,RP]
 ·simp[xE,RP]
theorem YS(s:List UInt8)(i:Nat):xE s i 2=xC s (i+1):=by simp[xE]
theorem AQ {s:List UInt8}{i:Nat}(h:i<s.length):xC s i=xE s i 0:=by
 rw[uJ h];simp[xE,dI]
def EV(b:Nat):Value:=.func (.func 221) #[] #[.pointer (some ⟨b,0,none⟩)]
def nG(s:List UInt8)(b:Nat)(H:View):Prop:=∃f,H b=some (f,.cells ⟨[vA s]⟩ 9 (0,0))
theorem nG.le {s:List UInt8}{b:Nat}(H H':View)(h:H.le H')(c:nG s b H):nG s b H':=c.imp fun _ e=> h _ _ e
theorem eS(s:List UInt8)(p:Nat)(hp:p<s.length)(hd:s.all TE=true):∃x,s[p]? =some x/\TE x=true/\Utf8.decode ⟨⟨s⟩⟩ p=(x.toNat,1):=by
 have hx:=List.getElem?_eq_getElem hp;have h1:TE s[p]=true:=List.all_eq_true.1 hd _ (List.getElem_mem hp);refine⟨s[p],hx,h1,?_⟩;obtain⟨z,w,h2,_,y,h3,h4,_⟩:=u4 s p hp;rw[hx] at h3;cases h3
 have:=of_decide_eq_true h1;obtain⟨rfl,rfl⟩:=h4 oM;exact h2
section
variable(M:Md prog)(H:View)
theorem EP(x:UInt8)(hx:TE x=true):aA M 44 #[.int .i32 (x.toNat:Nat)] H (fun v H'=> H.le H'/\v=.int .i64 (pn x:Nat)):=by
 have hd:=of_decide_eq_true hx;by_cases c1:x.toNat=48
 ·have e:pn x=10:=if_pos c1;rw[e,c1];refine .en func44 ntmps44 fun St c cs hK=> ?_;refine kN ?_;refine .rt hK func44 results44 [_] ?_;exact okB
 ·have e:pn x=x.toNat-48:=if_neg c1;rw[e];have c2:¬((x.toNat:Nat):Int)=48:=by omega
  have w1:rA .sub .i32 ((x.toNat:Nat):Int) 48=some (.int .i32 ((x.toNat-48:Nat):Int)):=by
   have:IntKind.i32.wrap (((x.toNat:Nat):Int)-48)=((x.toNat-48:Nat):Int):=by
    rw[show((x.toNat:Nat):Int)-48=((x.toNat-48:Nat):Int) by omega];exact IntWalk.i32_in _ ⟨oM,oM⟩
   show some (Value.int _ (IntKind.i32.wrap _))=_;rw[this]
  have w2:IntKind.i64.wrap ((x.toNat-48:Nat):Int)=((x.toNat-48:Nat):Int):=wrap64 oM oM;refine .en func44 ntmps44 fun St c cs hK=> ?_;refine PR ?_;refine .rt hK func44 results44 [_] ?_;exact okB
theorem aAM(m:Nat)(hm:m<10):aA M 286 #[.int .i64 (m:Nat)] H (fun v H'=> H.le H'/\v=vA [wI m]):=by
 have e:(([48,49,50,51,52,53,54,55,56,57,97,98,99,100,101,102,103,104,105,106,107,108,109,110,111,112,113,114,115,116,117,118,119,120,121,122]:List UInt8).drop ((m:Nat):Int).toNat).take ((((m:Nat):Int)+1).toNat-((m:Nat):Int).toNat)= [wI m]:=by
  rcases(by omega:m=0\/m=1\/m=2\/m=3\/m=4\/m=5\/m=6\/m=7\/m=8\/m=9) with rfl|rfl|rfl|rfl|rfl|rfl|rfl|rfl|rfl|rfl <;> rfl
 have hl:(([48,49,50,51,52,53,54,55,56,57,97,98,99,100,101,102,103,104,105,106,107,108,109,110,111,112,113,114,115,116,117,118,119,120,121,122]:List UInt8).length:Nat)=36:=rfl;rw[<-e];refine .en func286 ntmps286 fun St c cs hK=> ?_;refine lN ?_;refine .x (xA.cI (E:=en) (l:= [48,49,50,51,52,53,54,55,56,57,97,98,99,100,101,102,103,104,105,106,107,108,109,110,111,112,113,114,115,116,117,118,119,120,121,122]) rfl rfl rfl rfl rfl rfl oM oM oM) ?_;refine U2 ?_;refine .rt hK func286 results286 [_] ?_;exact okB
theorem IT(m:Nat)(hm:m<10):aA M 240 #[.int .i64 (m:Nat),.int .i64 10] H (fun v H'=> H.le H'/\v=vA [wI m]):=by
 refine .en func240 ntmps240 fun St c cs hK=> ?_;refine U25 ?_;refine .cl (fun H hs=> aAM M H m hm) ?_;refine U2 ?_;refine .rt hK func240 results240 [_] ?_;exact okB
theorem R8(m:Nat)(hm:m<10):aA M 173 #[.int .i64 (m:Nat)] H (fun v H'=> H.le H'/\v=vA [wI m]):=by
 refine .en func173 ntmps173 fun St c cs hK=> ?_;refine U7 ?_;refine .cl (fun H hs=> IT M H m hm) ?_;refine U2 ?_;refine .rt hK func173 results173 [_] ?_;exact okB
theorem aBr(m:Nat)(hm:m<10):aA M 93 #[.int .i64 (m:Nat)] H (fun v H'=> H.le H'/\v=vA [wI m]):=by
 refine .en func93 ntmps93 fun St c cs hK=> ?_;refine U7 ?_;refine .cl (fun H hs=> R8 M H m hm) ?_;refine U2 ?_;refine .rt hK func93 results93 [_] ?_;exact okB
theorem ZS(s:List UInt8):aA M 134 #[vA s] H (fun v H'=> H.le H'/\∃b,v=EV b/\nG s b H'):=by
 refine .en func134 ntmps134 fun St c cs hK=> ?_;refine U2 ?_;refine .bo fun b1=> ?_;refine U7 ?_;refine .rt hK func134 results134 [_] ?_;exact fun H' hs=> ⟨hs.base,b1,rfl,true,hs.get (i:=0) rfl⟩
theorem SP(s:List UInt8)(eR:s.all TE=true)(IY:s.length<=1000)(b1:Nat)(hC:nG s b1 H):
  bL M (EV b1) (rH s) (fun x (_:Unit)=> [vA x]) (fun _ _=> []) (fun _ _=> []) (nG s b1) [] H:=fun l J D ZB h0 hy H₀ AL=> by
 refine CB.of (first:= []) (captured:= [_]) aEd rfl ?_;obtain⟨fa,JZ⟩:=hC;refine aA.enter (vs:= [.func (.yield l) #[] #[],.pointer (some ⟨b1,0,none⟩)]) func221 rfl ntmps221 (Nat.le_of_ble_eq_true rfl) (AL) fun St c cs hK=> ?_;refine U3 ?_;refine .e (Or.US (E:=en) (s:=⟨⟨s⟩⟩) rfl rfl rfl rfl rfl dE (fun it=> ?_));refine U2 ?_;refine Tc.db (Tc.rI (σ:= { x:Nat×View//x.1<=s.length/\J (xC s x.1) x.2 })
  (fun x=> (x.1.2,[(0,.func (.yield l) #[] #[]),(1,.pointer (some ⟨b1,0,none⟩)),(8,.pointer (some ⟨it,0,none⟩))],[(it,true,.stringIter ⟨⟨s⟩⟩ x.1.1)])) (fun x=> s.length-x.1.1) ?_ ⟨(0,H),Nat.zero_le _,h0⟩)
 rintro⟨⟨p,H₁⟩,g1,j1⟩ ih₁;simp only at g1 j1;show Tc M St _ _ H₁ _ [(0,.func (.yield l) #[] #[]),(1,.pointer (some ⟨b1,0,none⟩)),(8,.pointer (some ⟨it,0,none⟩))] [(it,true,.stringIter ⟨⟨s⟩⟩ p)] _ _;by_cases c1:p=s.length
 ·subst c1;rw[zK (Nat.le_refl _)] at j1;have G8:¬s.length<(ByteArray.mk ⟨s⟩).size:=by show ¬s.length<s.length;omega
  refine U2 ?_;refine .e (Or.NS 0 rfl rfl rfl G8 rfl dE ?_);refine U5 ?_;refine .ov hK func221 results221 [] ?_;exact fun H' hs=> ⟨H₁,hs.base,.inl j1⟩
 ·have c2:p<s.length:=by omega
  obtain⟨x,hx,hdx,XN⟩:=eS s p c2 eR;have QZ:=S6 hdx;have dR:p<(ByteArray.mk ⟨s⟩).size:=c2;have I8:yQ s p=pn x:=by unfold yQ;rw[hx];rfl
  rw[AQ c2] at j1;refine U2 ?_;refine .e (Or.zP 0 rfl rfl rfl dR XN rfl dE ?_);refine lN ?_;refine .cl (fun H hs=> EP M H x hdx) ?_;refine U2 ?_;refine .cl (fun H hs=> EP M H x hdx) ?_;refine U5 ?_;refine Tc.db (Tc.rI (σ:= { y:Nat×View//y.1<=2/\J (xE s p y.1) y.2 })
   (fun y=> (y.1.2,[(0,.func (.yield l) #[] #[]),(1,.pointer (some ⟨b1,0,none⟩)),(3,.int .i64 (p:Nat)),(8,.pointer (some ⟨it,0,none⟩)),(19,.agg ⟨[.int .i64 ((pn x:Nat)-1:Int),.int .i64 ((pn x:Nat)+1:Int)]⟩),(20,.int .i64 (y.1.1:Nat))],[(it,true,.stringIter ⟨⟨s⟩⟩ (p+1))])) (fun y=> 2-y.1.1) ?_ ⟨(0,H₁),oM,j1⟩)
  rintro⟨⟨j,H₂⟩,g2,j2⟩ ih₂;simp only at g2 j2;show Tc M St _ _ H₂ _ [(0,.func (.yield l) #[] #[]),(1,.pointer (some ⟨b1,0,none⟩)),(3,.int .i64 (p:Nat)),(8,.pointer (some ⟨it,0,none⟩)),(19,.agg ⟨[.int .i64 ((pn x:Nat)-1:Int),.int .i64 ((pn x:Nat)+1:Int)]⟩),(20,.int .i64 (j:Nat))] [(it,true,.stringIter ⟨⟨s⟩⟩ (p+1))] _ _;by_cases c3:j=2
  ·subst c3;rw[YS] at j2;refine U8 ?_;exact Tc.db (ih₁ ⟨(p+1,H₂),by simp only;omega,j2⟩ (by simp only;omega))
  ·have c4:j<2:=by omega
   obtain⟨m,hm⟩:∃m,RP s p j=m:=⟨_,rfl⟩
   have f1:BC false 1 [Value.int .i64 ((pn x:Nat)-1:Int),.int .i64 ((pn x:Nat)+1:Int)] (((j:Nat):Int).toNat*1)=some (.int .i64 (m:Nat)):=by
    rw[<-hm];unfold RP;rw[I8];rcases(by omega:j=0\/j=1) with rfl|rfl
    ·show some (Value.int .i64 _)=some (Value.int .i64 _)
     congr 2
     simp only[if_pos];omega
    ·show some (Value.int .i64 _)=some (Value.int .i64 _)
     congr 2
   have wT:m<=11:=by rw[<-hm];unfold RP;rw[I8];split <;> omega
   rw[zQ s p j c4,hm] at j2;obtain⟨fc,y8⟩:=ZB _ _ j2;by_cases c5:1<=((m:Nat):Int)/\((m:Nat):Int)<=10
   ·have e1:tJ s p m= [slip s p m]:=if_pos oM;rw[e1] at j2;have a2:rA .rem .i64 (m:Nat) 10=some (.int .i64 ((m%10:Nat):Int)):=by rw[rem_in oM oM];rfl
    have yD:slip s p m∈rH s:=by
     refine xQ.2 ⟨p,Nat.zero_le _,c2,?_⟩;have hm2:m=yQ s p-1\/m=yQ s p+1:=by rw[<-hm];unfold RP;split <;> simp
     unfold dI;rcases hm2 with h|h
     ·rw[List.mem_append];exact .inl (by rw[<-h,e1];simp)
     ·rw[List.mem_append];exact .inr (by rw[<-h,e1];simp)
    have e2:(s.drop ((0:Nat):Int).toNat).take (((p:Nat):Int).toNat-((0:Nat):Int).toNat)++[wI (m%10)]++(s.drop (((p:Nat):Int)+1).toNat).take (((s.length:Nat):Int).toNat-(((p:Nat):Int)+1).toNat)=slip s p m:=by
     have e3:(((p:Nat):Int)+1).toNat=p+1:=by omega
     rw[qY,e3];unfold slip;simp
     exact List.take_of_length_le (by rw[List.length_drop];exact Nat.le_refl _)
    have hlen:(slip s p m).length<=1001:=by
     unfold slip;simp
     omega
    refine YD ?_;refine .x (xA.index (E:=en) rfl rfl rfl rfl rfl rfl oM oM (by assumption)) ?_;refine U3 ?_;refine Tc.drC [] [16] [] mixed rfl ?_;refine .oo 0 ?_;refine Ta.N8 1 kR rfl rfl dE rfl rfl (xA.tk fun H hs=> CA M H (m:Nat) 1 10 true (decide_eq_true c5)) ?_;refine .oo 2 ?_;refine .oo 3 ?_;refine .oo 4 ?_;refine .oo 5 ?_;refine Ta.N8 6 kR rfl rfl dE rfl rfl (xA.take (xA.cI (E:=en) rfl rfl rfl rfl rfl rfl oM oM oM)) ?_;refine .oo 7 ?_;refine .oo 8 ?_;refine Ta.N8 9 kR rfl rfl dE rfl rfl (xA.tk fun H hs=> aBr M H (m%10) (Nat.mod_lt _ dE)) ?_;refine Ta.N8 10 kR rfl rfl dE rfl rfl (xA.take (xA.JF rfl rfl rfl (by exact xJ (by simp <;> omega)))) ?_;refine .oo 11 ?_;refine .oo 12 ?_;refine .oo 13 ?_;refine Ta.N8 14 kR rfl rfl dE rfl rfl (xA.take (xA.cI (E:=en) rfl rfl rfl rfl rfl rfl oM oM oM)) ?_;refine Ta.N8 15 kR rfl rfl dE rfl rfl (xA.take (xA.JF rfl rfl rfl (by exact xJ (by simp <;> omega)))) ?_;rw[e2];refine Ta.sB 16 kR rfl kR rfl rfl rfl rfl rfl rfl dE (hy (slip s p m) (xE s p (j+1)) () H₂ H₂ yD j2 (kA.nil H₂)) (fun v H₃ hv=> ?_);rcases hv with ⟨rfl,H4,h8,j3⟩|⟨rfl,hD⟩
    ·refine Ta.lower h8.base ?_;refine .ea 17 rfl (Or.SY .nt rfl dE ⟨S3.off kR,?_⟩);refine .ea 18 rfl (Or.SY .pk rfl dE ⟨S3.off kR,?_⟩);refine .dn ?_;refine U7 ?_;exact Tc.db (ih₂ ⟨(j+1,H4),by simp only;omega,j3⟩ (by simp only;omega))
    ·refine .ea 17 rfl (Or.SY .nt rfl dE ⟨S3.off kR,?_⟩);refine .ea 18 rfl (Or.SY .pk rfl dE ⟨S3.off kR,?_⟩);refine .dn ?_;refine U ?_;refine .rt hK func221 results221 [] ?_;exact fun H' hs=> ⟨H₃,hs.base,.inr hD⟩
   ·have e1:tJ s p m= []:=if_neg oM;rw[e1] at j2;refine YD ?_;refine .x (xA.index (E:=en) rfl rfl rfl rfl rfl rfl oM oM (by assumption)) ?_;refine U3 ?_;refine Tc.dr [] [] mixed rfl ?_;refine .nn 0 ?_;refine .z 1 rfl (xA.tk fun H hs=> CA M H (m:Nat) 1 10 false (decide_eq_false c5)) ?_;refine .nn 2 ?_;refine .nw 3 ?_;refine .nw 4 ?_;refine .nw 5 ?_;refine .nw 6 ?_;refine .nw 7 ?_;refine .nw 8 ?_;refine .nw 9 ?_;refine .nw 10 ?_;refine .nw 11 ?_;refine .nw 12 ?_;refine .nw 13 ?_;refine .nw 14 ?_;refine .nw 15 ?_;refine .nw 16 ?_;refine .nw 17 ?_;refine .nn 18 ?_;refine .dn ?_;refine U7 ?_;exact Tc.db (ih₂ ⟨(j+1,H₂),by simp only;omega,j2⟩ (by simp only;omega))
end
end Go.Proofs.YtldmfjcgjdchcaaGreatDoor
namespace Go.Proofs.YtldmfjcgjdchcaaGreatDoor
open Go.RL Go.Proofs.Tryz
set_option maxRecDepth 10000
def nA(l:List Int)(i:Nat):Int:=l[i]?.getD 0
def MA(l:List Int)(p q:Nat):List Int:=(l.set p (nA l q)).set q (nA l p)
theorem yF(l:List Int)(p q:Nat):(MA l p q).length=l.length:=by simp[MA]
theorem xB {l:List Int}{p q:Nat}(hp:p<l.length)(hq:q<l.length)(r:Nat):nA (MA l p q) r=if r=q then nA l p else if r=p then nA l q else nA l r:=by
 unfold MA nA;rw[List.getElem?_set];by_cases h1:q=r
 ·subst h1;rw[if_pos rfl,if_pos (by rw[List.length_set];exact hq),if_pos rfl];rfl
 ·rw[if_neg h1,if_neg (fun h=> h1 h.symm),List.getElem?_set];by_cases h2:p=r
  ·subst h2;rw[if_pos rfl,if_pos hp,if_pos rfl];rfl
  ·rw[if_neg h2,if_neg (fun h=> h2 h.symm)]
theorem yJ {l:List Int}{p q:Nat}(hp:p<l.length)(hq:q<l.length)(x:Int):(MA l p q).count x=l.count x:=by
 unfold MA nA;rw[List.getElem?_eq_getElem hp,List.getElem?_eq_getElem hq];simp only[Option.getD_some];rw[List.count_set (by rw[List.length_set];exact hq),List.count_set hp,List.getElem_set];have h1:∀ {i:Nat} (h:i<l.length),l[i]=x->0<l.count x:=fun h e=> List.count_pos_iff.2 (e▸List.getElem_mem h);by_cases e:p=q
 ·subst e;simp only[if_true];by_cases e2:l[p]=x
  ·have:=h1 hp e2;simp only[e2,beq_self_eq_true,if_true];omega
  ·have e3:(l[p]==x)=false:=by simpa using e2
   simp only[e3,Bool.false_eq_true,if_false];omega
 ·simp only[if_neg e];by_cases e2:l[p]=x <;> by_cases e3:l[q]=x
  ·have:=h1 hp e2;simp only[e2,e3,beq_self_eq_true,if_true];omega
  ·have e4:(l[q]==x)=false:=by simpa using e3
   have:=h1 hp e2;simp only[e2,e4,beq_self_eq_true,if_true,Bool.false_eq_true,if_false];omega
  ·have e4:(l[p]==x)=false:=by simpa using e2
   have:=h1 hq e3;simp only[e3,e4,beq_self_eq_true,if_true,Bool.false_eq_true,if_false];omega
  ·have e4:(l[p]==x)=false:=by simpa using e2
   have e5:(l[q]==x)=false:=by simpa using e3
   simp only[e4,e5,Bool.false_eq_true,if_false];omega
structure iA(a b:Nat)(l m:List Int):Prop where
 len:m.length=l.length
 cnt:∀x,m.count x=l.count x
 out:∀i,i<a\/b<=i->nA m i=nA l i
theorem iA.refl(a b:Nat)(l:List Int):iA a b l l:=⟨rfl,fun _=> rfl,fun _ _=> rfl⟩
theorem iA.trans {a b:Nat}{l m n:List Int}(h:iA a b l m)(k:iA a b m n):iA a b l n:=⟨k.len.trans h.len,fun x=> (k.cnt x).trans (h.cnt x),fun i hi=> (k.out i hi).trans (h.out i hi)⟩
theorem iA.wide {a b a' b':Nat}{l m:List Int}(h:iA a b l m)(h1:a'<=a)(h2:b<=b'):iA a' b' l m:=⟨h.len,h.cnt,fun i hi=> h.out i oM⟩
theorem iA.swap {a b:Nat}{l:List Int}{p q:Nat}(hp:p<l.length)(hq:q<l.length)(h1:a<=p/\p<b)(h2:a<=q/\q<b):iA a b l (MA l p q):=
 ⟨yF ..,yJ hp hq,fun i hi=> by rw[xB hp hq,if_neg oM,if_neg oM]⟩
def TC(a b:Nat)(l:List Int):Prop:=∀p q,a<=p->p<q->q<b->nA l p<=nA l q
theorem iA.mem {a b:Nat}{l m:List Int}(h:iA a b l m)(x:Int):x∈m<->x∈l:=by
 rw[<-List.count_pos_iff,<-List.count_pos_iff,h.cnt x]
theorem zA {l:List Int}{p:Nat}(h:p<l.length):nA l p∈l:=by
 unfold nA;rw[List.getElem?_eq_getElem h];exact List.getElem_mem h
set_option maxHeartbeats 8000000
theorem fI(l:List Value)(i:Nat)(v:Value)(h:i<l.length):yE l i [v]=l.set i v:=by
 unfold yE;rw[List.set_eq_take_append_cons_drop,if_pos h];simp
def tA(dec:Int->List UInt8)(m:List Int):List Value:=m.map fun x=> vA (dec x)
theorem WB(dec:Int->List UInt8)(m:List Int):(tA dec m).length=m.length:=by simp[tA]
def SN(dec:Int->List UInt8)(l:List Int):Prop:=∀x∈l,∀y∈l,Op.bytesLess (dec x) (dec y)=decide (x<y)
theorem SN.zD {dec:Int->List UInt8}{l m:List Int}{a b:Nat}(h:SN dec l)(t:iA a b l m):SN dec m:=fun x hx y hy=> h x ((t.mem x).1 hx) y ((t.mem y).1 hy)
theorem qG {H₀ H H':View}{L:Bl}(h:kA H₀ L H){i sb:Nat}{x y:Bool×Obj}(hi:L[i]? =some (sb,x))(h1:∀b z,b≠sb->H b=some z->H' b=some z)(h2:H' sb=some y):kA H₀ (L.set i (sb,y)) H':=
 (h.set hi y).mono fun b z hb=> by
  by_cases e:b=sb
  ·subst e;rw[View.bB] at hb;rw[h2,hb]
  ·rw[View.GA _ _ e] at hb;exact h1 b z e hb
def pB(dec:Int->List UInt8)(H:View)(sb:Nat)(j:List Value)(P:Value->List Int->Prop)(v:Value)(H':View):Prop:=
 (∀b x,b≠sb->H b=some x->H' b=some x)/\∃m,P v m/\H' sb=some (true,.cells ⟨(tA dec m)++j⟩ 9 (0,0))
theorem pB.of {dec:Int->List UInt8}{H H':View}{sb:Nat}{j:List Value}{P:Value->List Int->Prop}{v:Value}{L:Bl}{m:List Int}(hs:kA (H.aB sb) L H'){i:Nat}(hi:L[i]? =some (sb,true,.cells ⟨(tA dec m)++j⟩ 9 (0,0)))(hP:P v m):pB dec H sb j P v H':=
 ⟨fun b x hb hx=> hs.base b x (by rw[HA hb];exact hx),m,hP,hs.get hi⟩
theorem Or.YE {dec:Int->List UInt8}{M:Md prog}{n:Nat}{H₀:View}{R:Rg}{L:Bl}{o:Oper}{K:Rg->Bl->Prop}{cl:Go.Call}{x:Operand}{fv:Value}{az:List Value}{d:Nat}(i:Nat){sb:Nat}{l:List Int}{j:List Value}(P:Value->List Int->Prop)
  (qA:o.op=.call cl) (yB:cl.callee=.value x) (hx:RA R x=some fv) (has:FD R cl.args.toList=some az) (hd:o.dst=some d) (hn:d<n) (hi:L[i]? =some (sb,true,.cells ⟨(tA dec l)++j⟩ 9 (0,0)))
  (hc:∀H,kA H₀ L H->CB M fv az H (pB dec H sb j P)) (hk:∀v m,P v m->K ((d,v)::R) (L.set i (sb,true,.cells ⟨(tA dec m)++j⟩ 9 (0,0)))):Or M n H₀ R L o K:=
 .pN qA yB hx has (Q:=fun H v H'=> pB dec H sb j P v H') hc fun H v H' hs ⟨h1,m,h2,h3⟩=>
  ⟨_,_,qG hs hi h1 h3,by rw[hd];exact⟨hn,rfl⟩,hk v m h2⟩
theorem yA {dec:Int->List UInt8}{m:List Int}{j:List Value}{k:Int}{p:Nat}(hk:k=(p:Nat))(hp:p<m.length):BC false 1 ((tA dec m)++j) (0+k.toNat*1)=some (vA (dec (nA m p))):=by
 subst hk;show((tA dec m)++j)[0+(p:Int).toNat*1]? =_;rw[Nat.zero_add,Nat.mul_one,Int.toNat_natCast,List.getElem?_append_left (by rw[WB];exact hp)];unfold tA nA;rw[List.getElem?_map,List.getElem?_eq_getElem hp];rfl
theorem JA {dec:Int->List UInt8}{m:List Int}{j:List Value}{k x:Int}{p:Nat}(hk:k=(p:Nat))(hp:p<m.length):yE ((tA dec m)++j) (0+k.toNat*1) [vA (dec (x))]=(tA dec (m.set p x))++j:=by
 subst hk;rw[Nat.zero_add,Nat.mul_one,Int.toNat_natCast,fI _ _ _ (by rw[List.length_append,WB];omega),List.set_append_left _ _ (by rw[WB];exact hp)];unfold tA;rw[List.map_set]
theorem IA {dec:Int->List UInt8}{m:List Int}{j:List Value}{k:Int}{p:Nat}(hk:k=(p:Nat))(hp:p<m.length):Nat.ble (0+k.toNat*1+1) ((tA dec m)++j).length=true:=by
 subst hk;rw[Nat.ble_eq,List.length_append,WB,Int.toNat_natCast];omega
section
variable(M:Md prog)(H:View)
theorem Q5(s:List UInt8):aA M 306 #[vA s] H (fun v H'=> H.le H'/\v=.bool false):=by
 refine .en func306 ntmps306 fun St c cs hK=> ?_;refine YD ?_;refine .rt hK func306 results306 [_] ?_;exact fun H' hs=> ⟨hs.base,by simp[oC]⟩
theorem W8(s p:List UInt8):aA M 262 #[vA s,vA p] H (fun v H'=> H.le H'/\v=.bool (Op.bytesLess s p)):=by
 refine .en func262 ntmps262 fun St c cs hK=> ?_;refine U7 ?_;refine .cl (fun H hs=> Q5 M H s) ?_;refine SE ?_;refine .rt hK func262 results262 [_] ?_;exact okB
theorem nC {dec:Int->List UInt8}{l:List Int}(hE:SN dec l){x y:Int}(hx:x∈l)(hy:y∈l)(t:Bool)(ht:decide (x<y)=t):aA M 262 #[vA (dec x),vA (dec y)] H (fun v H'=> H.le H'/\v=.bool t):=
 eG (W8 M H (dec x) (dec y)) ((hE x hx y hy).trans ht)
end
theorem CL {m:List Int}{a i j:Nat}(hg:∀p q,a<=p->p<q->q<=i->q≠j->nA m p<=nA m q)(hj:a<j)(hle:¬nA m j<nA m (j-1)):TC a (i+1) m:=fun p q h1 h2 h3=> by
 by_cases e:q=j
 ·subst e;have h4:nA m p<=nA m (q-1):=by
   by_cases e2:p=q-1
   ·rw[e2];exact Int.le_refl _
   ·exact hg p (q-1) h1 oM oM oM
  omega
 ·exact hg p q h1 h2 oM e
theorem kJ {m:List Int}{a i j:Nat}(hi:i<m.length)(qO:j<=i)(hg:∀p q,a<=p->p<q->q<=i->q≠j->nA m p<=nA m q)(hj:a<j)(NB:nA m j<nA m (j-1)):
  ∀p q,a<=p->p<q->q<=i->q≠j-1->nA (MA m j (j-1)) p<=nA (MA m j (j-1)) q:=fun p q h1 h2 h3 h4=> by
 rw[xB oM oM,xB oM oM,if_neg h4];by_cases e:q=j
 ·rw[if_pos e];by_cases e2:p=j-1
  ·rw[if_pos e2];omega
  ·rw[if_neg e2,if_neg oM];exact hg p (j-1) h1 oM oM oM
 ·rw[if_neg e];by_cases e2:p=j-1
  ·rw[if_pos e2];exact hg j q oM oM h3 e
  ·rw[if_neg e2];by_cases e3:p=j
   ·rw[if_pos e3];exact hg (j-1) q oM oM h3 e
   ·rw[if_neg e3];exact hg p q h1 h2 h3 e
section
variable(M:Md prog)(H:View)
theorem DL(dec:Int->List UInt8)(sb:Nat)(l:List Int)(jj:List Value)(n cap a b:Nat)(hn:n=l.length)(hE:SN dec l)(hb:b<=n)(fD:n<=100000000)(ha:a<=n)(hS:H sb=some (true,.cells ⟨(tA dec l)++jj⟩ 9 (0,0))):
  aA M 256 #[.slice (some ⟨sb,0,none⟩) n cap,.int .i64 (a:Nat),.int .i64 (b:Nat)] H (pB dec H sb jj (fun v m=> v=.tuple ⟨[]⟩/\iA a b l m/\TC a b m)):=by
 refine aA.enter (vs:= [.slice (some ⟨sb,0,none⟩) n cap,.int .i64 (a:Nat),.int .i64 (b:Nat)]) func256 rfl ntmps256 (Nat.le_of_ble_eq_true rfl) (kA.pull hS) fun St c cs hK=> ?_;have ha1:rA .add .i64 (a:Nat) 1=some (.int .i64 ((a+1:Nat):Int)):=by rw[LB oM oM];rfl
 refine U7 ?_;refine Tc.db (Tc.sA (σ:= { s:Nat×List Int//a+1<=s.1/\(s.1<=b\/s.1=a+1)/\iA a b l s.2/\TC a s.1 s.2 }) (fun s=> ([(0,.slice (some ⟨sb,0,none⟩) n cap),(1,.int .i64 (a:Nat)),(2,.int .i64 (b:Nat)),(6,.int .i64 (s.1.1:Nat))],[(sb,true,.cells ⟨(tA dec s.1.2)++jj⟩ 9 (0,0))])) (fun s=> b-s.1.1) ?_
  ⟨(a+1,l),by simp,by simp,iA.refl ..,fun p q h1 h2 h3=> by omega⟩)
 rintro⟨⟨i,m⟩,g1,g2,g3,g4⟩ ih;simp only at g1 g2 g3 g4;show Tc M St _ _ _ _ [(0,.slice (some ⟨sb,0,none⟩) n cap),(1,.int .i64 (a:Nat)),(2,.int .i64 (b:Nat)),(6,.int .i64 (i:Nat))] [(sb,true,.cells ⟨(tA dec m)++jj⟩ 9 (0,0))] _ _;by_cases c1:i<b
 ·have HM:=g3.len;have hi1:rA .add .i64 (i:Nat) 1=some (.int .i64 ((i+1:Nat):Int)):=by rw[LB oM oM];rfl
  refine BI ?_;refine Tc.db (Tc.sA (σ:= { s:Nat×List Int//a<=s.1/\s.1<=i/\iA a b l s.2/\∀p q,a<=p->p<q->q<=i->q≠s.1->nA s.2 p<=nA s.2 q }) (fun s=> ([(0,.slice (some ⟨sb,0,none⟩) n cap),(1,.int .i64 (a:Nat)),(2,.int .i64 (b:Nat)),(6,.int .i64 (i:Nat)),(7,.int .i64 (s.1.1:Nat))],[(sb,true,.cells ⟨(tA dec s.1.2)++jj⟩ 9 (0,0))])) (fun s=> s.1.1) ?_
   ⟨(i,m),by simp only;omega,by simp only;omega,g3,fun p q h1 h2 h3 h4=> g4 p q h1 h2 (by simp only at h4;omega)⟩)
  rintro⟨⟨j,u⟩,f1,f2,f3,f4⟩ ih2;simp only at f1 f2 f3 f4;have yI:=f3.len;have PJ:=hE.zD f3;show Tc M St _ _ _ _ [(0,.slice (some ⟨sb,0,none⟩) n cap),(1,.int .i64 (a:Nat)),(2,.int .i64 (b:Nat)),(6,.int .i64 (i:Nat)),(7,.int .i64 (j:Nat))] [(sb,true,.cells ⟨(tA dec u)++jj⟩ 9 (0,0))] _ _;by_cases c2:a<j
  ·have e1:((j:Nat):Int)-1=((j-1:Nat):Int):=by omega
   have k1:=yA (dec:=dec) (m:=u) (j:=jj) (k:=(j:Nat)) (p:=j) rfl oM;have k2:=yA (dec:=dec) (m:=u) (j:=jj) (k:=(j:Nat)-1) (p:=j-1) e1 oM;by_cases c3:nA u j<nA u (j-1)
   ·have s1:=JA (dec:=dec) (m:=u) (j:=jj) (k:=(j:Nat)) (x:=nA u (j-1)) (p:=j) rfl oM;have s2:=JA (dec:=dec) (m:=u.set j (nA u (j-1))) (j:=jj) (k:=(j:Nat)-1) (x:=nA u j) (p:=j-1) e1 (by rw[List.length_set];omega);have l1:=IA (dec:=dec) (m:=u) (j:=jj) (k:=(j:Nat)) (p:=j) rfl oM;have l2:=IA (dec:=dec) (m:=u.set j (nA u (j-1))) (j:=jj) (k:=(j:Nat)-1) (p:=j-1) e1 (by rw[List.length_set];omega);refine U2 ?_;refine Tc.dr [] [] mixed rfl ?_;refine Z2 0 ?_;refine .z 13 rfl (xA.tk fun H hs=> nC M H PJ (zA oM) (zA oM) true (decide_eq_true c3)) ?_;refine .nn 14 ?_;refine .dn ?_;refine U4 ?_;refine Tc.dr [15,17] [0] mixed rfl ?_;refine V2 0 ?_;refine .nw 2 ?_;refine .nw 3 ?_;refine .nw 4 ?_;refine V5 5 ?_;refine .nw 10 ?_;refine .nw 11 ?_;refine .nw 12 ?_;refine V2 13 ?_;refine .e 15 0 ?_;refine .nw 16 ?_;refine .e 17 0 ?_;refine .dn ?_;refine U6 ?_;rw[e1];exact Tc.db (ih2 ⟨(j-1,MA u j (j-1)),by simp only;omega,by simp only;omega,f3.trans (iA.swap oM oM oM oM),kJ oM f2 f4 c2 c3⟩ (by simp only;omega))
   ·refine U2 ?_;refine Tc.dr [] [] mixed rfl ?_;refine Z2 0 ?_;refine .z 13 rfl (xA.tk fun H hs=> nC M H PJ (zA oM) (zA oM) false (decide_eq_false c3)) ?_;refine .nn 14 ?_;refine .dn ?_;refine U8 ?_;exact Tc.db (ih ⟨(i+1,u),by simp only;omega,by simp only;omega,f3,CL f4 c2 c3⟩ (by simp only;omega))
  ·refine U2 ?_;refine Tc.dr [] [] mixed rfl ?_;refine V4 0 ?_;refine .nw 4 ?_;refine .nw 5 ?_;refine .nw 6 ?_;refine .nw 7 ?_;refine .nw 8 ?_;refine .nw 9 ?_;refine .nw 10 ?_;refine .nw 11 ?_;refine .nw 12 ?_;refine .nw 13 ?_;refine .nn 14 ?_;refine .dn ?_;refine U8 ?_;exact Tc.db (ih ⟨(i+1,u),by simp only;omega,by simp only;omega,f3,fun p q h1 h2 h3=> f4 p q h1 h2 oM oM⟩ (by simp only;omega))
 ·refine U9 ?_;refine .ov hK func256 results256 [] ?_;exact fun H' hs=> pB.of hs (i:=0) rfl ⟨rfl,g3,fun p q h1 h2 h3=> g4 p q h1 h2 oM⟩
end
def jA(m:List Int):List Value:=m.map fun x=> .int .i64 x
theorem uA(m:List Int):(jA m).length=m.length:=by simp[jA]
def wD(H:View)(sb:Nat)(j:List Value)(P:Value->List Int->Prop)(v:Value)(H':View):Prop:=
 (∀b x,b≠sb->H b=some x->H' b=some x)/\∃m,P v m/\H' sb=some (true,.cells ⟨(jA m)++j⟩ 3 (0,0))
theorem wD.of {H H':View}{sb:Nat}{j:List Value}{P:Value->List Int->Prop}{v:Value}{L:Bl}{m:List Int}(hs:kA (H.aB sb) L H'){i:Nat}(hi:L[i]? =some (sb,true,.cells ⟨(jA m)++j⟩ 3 (0,0)))(hP:P v m):wD H sb j P v H':=
 ⟨fun b x hb hx=> hs.base b x (by rw[HA hb];exact hx),m,hP,hs.get hi⟩
theorem Or.bT {M:Md prog}{n:Nat}{H₀:View}{R:Rg}{L:Bl}{o:Oper}{K:Rg->Bl->Prop}{cl:Go.Call}{x:Operand}{fv:Value}{az:List Value}{d:Nat}(i:Nat){sb:Nat}{l:List Int}{j:List Value}(P:Value->List Int->Prop)
  (qA:o.op=.call cl) (yB:cl.callee=.value x) (hx:RA R x=some fv) (has:FD R cl.args.toList=some az) (hd:o.dst=some d) (hn:d<n) (hi:L[i]? =some (sb,true,.cells ⟨(jA l)++j⟩ 3 (0,0)))
  (hc:∀H,kA H₀ L H->CB M fv az H (wD H sb j P)) (hk:∀v m,P v m->K ((d,v)::R) (L.set i (sb,true,.cells ⟨(jA m)++j⟩ 3 (0,0)))):Or M n H₀ R L o K:=
 .pN qA yB hx has (Q:=fun H v H'=> wD H sb j P v H') hc fun H v H' hs ⟨h1,m,h2,h3⟩=>
  ⟨_,_,qG hs hi h1 h3,by rw[hd];exact⟨hn,rfl⟩,hk v m h2⟩
theorem vM {m:List Int}{j:List Value}{k:Int}{p:Nat}(hk:k=(p:Nat))(hp:p<m.length):BC false 1 ((jA m)++j) (0+k.toNat*1)=some (.int .i64 (nA m p)):=by
 subst hk;show((jA m)++j)[0+(p:Int).toNat*1]? =_;rw[Nat.zero_add,Nat.mul_one,Int.toNat_natCast,List.getElem?_append_left (by rw[uA];exact hp)];unfold jA nA;rw[List.getElem?_map,List.getElem?_eq_getElem hp];rfl
theorem xM {m:List Int}{j:List Value}{k x:Int}{p:Nat}(hk:k=(p:Nat))(hp:p<m.length):yE ((jA m)++j) (0+k.toNat*1) [.int .i64 (x)]=(jA (m.set p x))++j:=by
 subst hk;rw[Nat.zero_add,Nat.mul_one,Int.toNat_natCast,fI _ _ _ (by rw[List.length_append,uA];omega),List.set_append_left _ _ (by rw[uA];exact hp)];unfold jA;rw[List.map_set]
theorem wM {m:List Int}{j:List Value}{k:Int}{p:Nat}(hk:k=(p:Nat))(hp:p<m.length):Nat.ble (0+k.toNat*1+1) ((jA m)++j).length=true:=by
 subst hk;rw[Nat.ble_eq,List.length_append,uA,Int.toNat_natCast];omega
section
variable(M:Md prog)(H:View)
theorem SU(s:Int):aA M 310 #[.int .i64 s] H (fun v H'=> H.le H'/\v=.bool false):=by
 refine .en func310 ntmps310 fun St c cs hK=> ?_;refine YD ?_;refine .rt hK func310 results310 [_] ?_;exact okB
theorem dY(a b:Int)(t:Bool)(ht:decide (a<b)=t):aA M 278 #[.int .i64 a,.int .i64 b] H (fun v H'=> H.le H'/\v=.bool t):=by
 rw[<-ht];refine .en func278 ntmps278 fun St c cs hK=> ?_;by_cases c1:a<b
 ·have e:decide (a<b)=true:=decide_eq_true c1;rw[e] at hK;refine U7 ?_;refine .cl (fun H hs=> SU M H a) ?_;refine SE ?_;refine .rt hK func278 results278 [_] ?_;exact okB
 ·have e:decide (a<b)=false:=decide_eq_false c1;rw[e] at hK;refine U7 ?_;refine .cl (fun H hs=> SU M H a) ?_;refine SE ?_;refine .rt hK func278 results278 [_] ?_;exact okB
end
section
variable(M:Md prog)(H:View)
theorem BS(sb:Nat)(l:List Int)(jj:List Value)(n cap a b:Nat)(hn:n=l.length)(hb:b<=n)(fD:n<=1000000)(ha:a<=n)(hS:H sb=some (true,.cells ⟨(jA l)++jj⟩ 3 (0,0))):
  aA M 272 #[.slice (some ⟨sb,0,none⟩) n cap,.int .i64 (a:Nat),.int .i64 (b:Nat)] H (wD H sb jj (fun v m=> v=.tuple ⟨[]⟩/\iA a b l m/\TC a b m)):=by
 refine aA.enter (vs:= [.slice (some ⟨sb,0,none⟩) n cap,.int .i64 (a:Nat),.int .i64 (b:Nat)]) func272 rfl ntmps272 (Nat.le_of_ble_eq_true rfl) (kA.pull hS) fun St c cs hK=> ?_;have ha1:rA .add .i64 (a:Nat) 1=some (.int .i64 ((a+1:Nat):Int)):=by rw[LB oM oM];rfl
 refine U7 ?_;refine Tc.db (Tc.sA (σ:= { s:Nat×List Int//a+1<=s.1/\(s.1<=b\/s.1=a+1)/\iA a b l s.2/\TC a s.1 s.2 }) (fun s=> ([(0,.slice (some ⟨sb,0,none⟩) n cap),(1,.int .i64 (a:Nat)),(2,.int .i64 (b:Nat)),(6,.int .i64 (s.1.1:Nat))],[(sb,true,.cells ⟨(jA s.1.2)++jj⟩ 3 (0,0))])) (fun s=> b-s.1.1) ?_
  ⟨(a+1,l),by simp,by simp,iA.refl ..,fun p q h1 h2 h3=> by omega⟩)
 rintro⟨⟨i,m⟩,g1,g2,g3,g4⟩ ih;simp only at g1 g2 g3 g4;show Tc M St _ _ _ _ [(0,.slice (some ⟨sb,0,none⟩) n cap),(1,.int .i64 (a:Nat)),(2,.int .i64 (b:Nat)),(6,.int .i64 (i:Nat))] [(sb,true,.cells ⟨(jA m)++jj⟩ 3 (0,0))] _ _;by_cases c1:i<b
 ·have HM:=g3.len;have hi1:rA .add .i64 (i:Nat) 1=some (.int .i64 ((i+1:Nat):Int)):=by rw[LB oM oM];rfl
  refine BI ?_;refine Tc.db (Tc.sA (σ:= { s:Nat×List Int//a<=s.1/\s.1<=i/\iA a b l s.2/\∀p q,a<=p->p<q->q<=i->q≠s.1->nA s.2 p<=nA s.2 q }) (fun s=> ([(0,.slice (some ⟨sb,0,none⟩) n cap),(1,.int .i64 (a:Nat)),(2,.int .i64 (b:Nat)),(6,.int .i64 (i:Nat)),(7,.int .i64 (s.1.1:Nat))],[(sb,true,.cells ⟨(jA s.1.2)++jj⟩ 3 (0,0))])) (fun s=> s.1.1) ?_
   ⟨(i,m),by simp only;omega,by simp only;omega,g3,fun p q h1 h2 h3 h4=> g4 p q h1 h2 (by simp only at h4;omega)⟩)
  rintro⟨⟨j,u⟩,f1,f2,f3,f4⟩ ih2;simp only at f1 f2 f3 f4;have yI:=f3.len
   
  show Tc M St _ _ _ _ [(0,.slice (some ⟨sb,0,none⟩) n cap),(1,.int .i64 (a:Nat)),(2,.int .i64 (b:Nat)),(6,.int .i64 (i:Nat)),(7,.int .i64 (j:Nat))] [(sb,true,.cells ⟨(jA u)++jj⟩ 3 (0,0))] _ _;by_cases c2:a<j
  ·have e1:((j:Nat):Int)-1=((j-1:Nat):Int):=by omega
   have k1:=vM (m:=u) (j:=jj) (k:=(j:Nat)) (p:=j) rfl oM;have k2:=vM (m:=u) (j:=jj) (k:=(j:Nat)-1) (p:=j-1) e1 oM;by_cases c3:nA u j<nA u (j-1)
   ·have s1:=xM (m:=u) (j:=jj) (k:=(j:Nat)) (x:=nA u (j-1)) (p:=j) rfl oM;have s2:=xM (m:=u.set j (nA u (j-1))) (j:=jj) (k:=(j:Nat)-1) (x:=nA u j) (p:=j-1) e1 (by rw[List.length_set];omega);have l1:=wM (m:=u) (j:=jj) (k:=(j:Nat)) (p:=j) rfl oM;have l2:=wM (m:=u.set j (nA u (j-1))) (j:=jj) (k:=(j:Nat)-1) (p:=j-1) e1 (by rw[List.length_set];omega);refine U2 ?_;refine Tc.dr [] [] mixed rfl ?_;refine Z2 0 ?_;refine .z 13 rfl (xA.tk fun H hs=> dY M H (nA u j) (nA u (j-1)) true (decide_eq_true c3)) ?_;refine .nn 14 ?_;refine .dn ?_;refine U4 ?_;refine Tc.dr [15,17] [0] mixed rfl ?_;refine V2 0 ?_;refine .nw 2 ?_;refine .nw 3 ?_;refine .nw 4 ?_;refine V5 5 ?_;refine .nw 10 ?_;refine .nw 11 ?_;refine .nw 12 ?_;refine V2 13 ?_;refine .e 15 0 ?_;refine .nw 16 ?_;refine .e 17 0 ?_;refine .dn ?_;refine U6 ?_;rw[e1];exact Tc.db (ih2 ⟨(j-1,MA u j (j-1)),by simp only;omega,by simp only;omega,f3.trans (iA.swap oM oM oM oM),kJ oM f2 f4 c2 c3⟩ (by simp only;omega))
   ·refine U2 ?_;refine Tc.dr [] [] mixed rfl ?_;refine Z2 0 ?_;refine .z 13 rfl (xA.tk fun H hs=> dY M H (nA u j) (nA u (j-1)) false (decide_eq_false c3)) ?_;refine .nn 14 ?_;refine .dn ?_;refine U8 ?_;exact Tc.db (ih ⟨(i+1,u),by simp only;omega,by simp only;omega,f3,CL f4 c2 c3⟩ (by simp only;omega))
  ·refine U2 ?_;refine Tc.dr [] [] mixed rfl ?_;refine V4 0 ?_;refine .nw 4 ?_;refine .nw 5 ?_;refine .nw 6 ?_;refine .nw 7 ?_;refine .nw 8 ?_;refine .nw 9 ?_;refine .nw 10 ?_;refine .nw 11 ?_;refine .nw 12 ?_;refine .nw 13 ?_;refine .nn 14 ?_;refine .dn ?_;refine U8 ?_;exact Tc.db (ih ⟨(i+1,u),by simp only;omega,by simp only;omega,f3,fun p q h1 h2 h3=> f4 p q h1 h2 oM oM⟩ (by simp only;omega))
 ·refine U9 ?_;refine .ov hK func272 results272 [] ?_;exact fun H' hs=> wD.of hs (i:=0) rfl ⟨rfl,g3,fun p q h1 h2 h3=> g4 p q h1 h2 oM⟩
end
end Go.Proofs.YtldmfjcgjdchcaaGreatDoor
namespace Go.RL
open Go.Conc
section
variable {P:Program}{E:Env P}{M:Md P}{n:Nat}{H₀:View}{R:Rg}{L:Bl}{o:Oper}{K:Rg->Bl->Prop}
theorem Or.clear(i:Nat){cl:Go.Call}{x:Operand}{t e e':TypeId}{q cap blk off:Nat}{z:Value}{c c':List Value}{r re:OA}(qA:o.op=.call cl)(yB:cl.callee=.builtin .clear)(YK:cl.argTypes=#[t])(vL:cl.args=#[x])
  (hx:RA R x=some (.slice (some ⟨blk,off,none⟩) q cap)) (ht:E.ty t=some r) (yC:r.ds=.slice e) (EE:E.ty e=some re) (hz:re.zero.cells.toList= [z]) (hz1:single z=true)
  (hi:L[i]? =some (blk,true,.cells ⟨c⟩ e' (0,0))) (hq:q≠0) (hl:off+q<=c.length) (hd:o.dst=none) (hc:yE c off (List.replicate q z)=c')
  (hk:K R (L.set i (blk,true,.cells ⟨c'⟩ e' (0,0)))):Or M n H₀ R L o K:=fun H tmps eC hr=> by
 unfold kF;unfold execOp;rw[qA];simp only[resolve,yB,YK,vL];have hm':Array.map (IC tmps) #[x]=#[.slice (some ⟨blk,off,none⟩) q cap]:=by simp[hr.ev hx]
 rw[hm'];obtain⟨q',rfl⟩:∃q',q=q'+1:=⟨q-1,oM⟩
 refine bA (Builtin.clear_ #[t] o.type #[.slice (some ⟨blk,off,none⟩) (q'+1) cap]) _ ?_;show fB P ((underlying t).bind fun _=> _) H _;refine bA (underlying t) _ (mA (VE ((E.ok _ _ ht).ds.trans yC)) ?_);show fB P ((zeroValue e).bind fun z=> (storeCells ⟨blk,off,none⟩ (Builtin.zeroCells z.cells (q'+1)).toList).bind fun _=> Sem.pure (Value.tuple #[])) H _;refine bA (zeroValue e) _ (sC (E.ok _ _ EE).zero ?_);have hzc:(Builtin.zeroCells re.zero.cells (q'+1)).toList=List.replicate (q'+1) z:=by
  have IE:re.zero.cells.size=1:=by
   have:=congrArg List.length hz;simpa using this
  rw[fM,hz,RN,IE,Nat.mul_one]
 rw[hzc];refine bA (storeCells _ _) _ ?_;refine XD blk _ (List.replicate (q'+1) z) 0 c (eC.get hi) (by simp only[List.length_replicate,Nat.add_zero];omega) (by rw[List.all_eq_true];intro y hy;rw[List.eq_of_mem_replicate hy];exact hz1) fun H' UW=> ?_;rw[if_neg (by simp)] at UW;rw[UW];refine⟨R,_,?_,eC.set hi _,?_⟩
 ·rw[hd];exact hr
 ·rw[show yE c (off+0) (List.replicate (q'+1) z)=c' from hc];exact hk
end
end Go.RL
namespace Go.Proofs.YtldmfjcgjdchcaaGreatDoor
open Go.RL Go.Proofs.Tryz
set_option maxRecDepth 10000
set_option maxHeartbeats 8000000
def rB(l:List Int):Nat->List Int
 | 0=> []
 | k+1=> if 1<=k/\nA l k=nA l (k-1) then rB l k else rB l k++[nA l k]
theorem dS(l:List Int):∀k,(rB l k).length<=k
 | 0=> Nat.le_refl _
 | k+1=> by
  have:=dS l k;unfold rB;split
  ·omega
  ·rw[List.length_append,List.length_cons,List.length_nil];omega
theorem cM {l:List Int}{k:Nat}(h:k<l.length):l.take (k+1)=l.take k++[nA l k]:=by
 unfold nA;rw[List.take_succ_eq_append_getElem h,List.getElem?_eq_getElem h];rfl
theorem MN {u:List Int}{w:Nat}{x:Int}(h:w<u.length):(u.set w x).take (w+1)=u.take w++[x]:=by
 rw[List.take_succ_eq_append_getElem (by rw[List.length_set];exact h),List.take_set_of_le (Nat.le_refl _),List.getElem_set_self]
theorem kY {u:List Int}{w p:Nat}{x:Int}(h:w≠p):nA (u.set w x) p=nA u p:=by
 unfold nA;rw[List.getElem?_set_ne h]
theorem JH:∀s:List UInt8,Op.bytesLess s s=false
 | []=> rfl
 | a::t=> by
  show(decide (a<a)||(a==a&&Op.bytesLess t t))=false;rw[JH t];have:¬a<a:=UInt8.lt_irrefl a;simp[this]
theorem SN.inj {dec:Int->List UInt8}{l:List Int}(h:SN dec l){x y:Int}(hx:x∈l)(hy:y∈l)(e:dec x=dec y):x=y:=by
 have h1:=h x hx y hy;have h2:=h y hy x hx;rw[e,JH] at h1;rw[e,JH] at h2;have h3:=of_decide_eq_false h1.symm;have h4:=of_decide_eq_false h2.symm;omega
theorem MJ {dec:Int->List UInt8}{m:List Int}{j:List Value}{k:Int}{o p:Nat}(hk:o+k.toNat*1=p)(hp:p<m.length):BC false 1 ((tA dec m)++j) (o+k.toNat*1)=some (vA (dec (nA m p))):=by
 rw[hk];have:=yA (dec:=dec) (m:=m) (j:=j) (k:=(p:Nat)) (p:=p) rfl hp;rw[Int.toNat_natCast,Nat.zero_add,Nat.mul_one] at this;exact this
def V1(dec:Int->List UInt8)(H:View)(sb:Nat)(l:List Int)(jj:List Value)(n cap:Nat)(v:Value)(H':View):Prop:=
 (∀b x,b≠sb->H b=some x->H' b=some x)/\∃rest,v=.slice (some ⟨sb,0,none⟩) (rB l n).length cap/\(rB l n).length+rest.length=n+jj.length/\H' sb=some (true,.cells ⟨(tA dec (rB l n))++rest⟩ 9 (0,0))
section
variable(M:Md prog)(H:View)
theorem iW(dec:Int->List UInt8)(sb:Nat)(l:List Int)(jj:List Value)(n cap:Nat)(hn:n=l.length)(hE:SN dec l)(fD:n<=100000000)(ZB:n<=cap)(hS:H sb=some (true,.cells ⟨(tA dec l)++jj⟩ 9 (0,0))):
  aA M 121 #[.slice (some ⟨sb,0,none⟩) n cap] H (V1 dec H sb l jj n cap):=by
 by_cases c0:n<2
 ·have e:rB l n=l:=by
   rcases(by omega:n=0\/n=1) with h|h
   ·have:l= []:=List.eq_nil_of_length_eq_zero oM;rw[h,this];rfl
   ·rw[h]
    match l,hn.symm.trans h with
    | [x],_=> rfl
  refine aA.enter (vs:= [.slice (some ⟨sb,0,none⟩) n cap]) func121 rfl ntmps121 (Nat.le_of_ble_eq_true rfl) (kA.pull hS) fun St c cs hK=> ?_;refine BI ?_;refine .rt hK func121 results121 [_] ?_;refine fun H' hs=> ⟨fun b x hb hx=> hs.base b x (by rw[HA hb];exact hx),jj,?_,?_,?_⟩
  ·rw[e,<-hn];rfl
  ·rw[e,<-hn]
  ·rw[e];exact hs.get (i:=0) rfl
 ·refine aA.enter (vs:= [.slice (some ⟨sb,0,none⟩) n cap]) func121 rfl ntmps121 (Nat.le_of_ble_eq_true rfl) (kA.pull hS) fun St c cs hK=> ?_;refine PR ?_;refine Tc.db (Tc.sA (σ:= { i:Nat//1<=i/\i<=n/\rB l i=l.take i }) (fun i=> ([(0,.slice (some ⟨sb,0,none⟩) n cap),(3,.int .i64 (i.1:Nat))],[(sb,true,.cells ⟨(tA dec l)++jj⟩ 9 (0,0))])) (fun i=> n-i.1) ?_ ⟨1,Nat.le_refl _,oM,?_⟩)
  ·rintro ⟨i,g1,g2,g3⟩ ih;show Tc M St _ _ _ _ [(0,.slice (some ⟨sb,0,none⟩) n cap),(3,.int .i64 (i:Nat))] [(sb,true,.cells ⟨(tA dec l)++jj⟩ 9 (0,0))] _ _;by_cases c1:i=n
   ·have e:rB l n=l:=by rw[<-c1,g3,c1,hn,List.take_length]
    subst c1;refine kN ?_;refine .rt hK func121 results121 [_] ?_;refine fun H' hs=> ⟨fun b x hb hx=> hs.base b x (by rw[HA hb];exact hx),jj,?_,?_,?_⟩
    ·rw[e,<-hn];rfl
    ·rw[e,<-hn]
    ·rw[e];exact hs.get (i:=0) rfl
   ·have c2 :i<n:=by omega
    have e1:((i:Nat):Int)-1=((i-1:Nat):Int):=by omega
    have k1:=MJ (dec:=dec) (m:=l) (j:=jj) (o:=0) (k:=(i:Nat)) (p:=i) oM oM;have k2:=MJ (dec:=dec) (m:=l) (j:=jj) (o:=0) (k:=(i:Nat)-1) (p:=i-1) oM oM;by_cases c3:nA l i=nA l (i-1)
    ·have c4:RL.JF .eql (dec (nA l i)) (dec (nA l (i-1)))=some (.bool true):=by rw[c3];simp[RL.JF]
     have hdi:rB l (i+1)=l.take i:=by rw[rB,if_pos ⟨g1,c3⟩,g3]
     have NB:(l.take i).length=i:=by rw[List.length_take];omega
     refine ZF ?_;refine Tc.dr [] [] mixed rfl ?_;refine N1 0 ?_;refine .dn ?_;refine U5 ?_;refine .x (xA.slice (E:=en) (off':=0+((i:Nat):Int).toNat*1) rfl rfl rfl rfl rfl rfl rfl rfl oM oM oM (by rw[if_neg oM] <;> rfl)) ?_;refine U8 ?_;refine Tc.db (Tc.sA (σ:= { s:Nat×Nat×List Int//1<=s.2.1/\s.2.1<=n-i/\s.2.2.length=n/\s.1+1<=i+s.2.1/\s.1=(rB l (i+s.2.1)).length/\s.2.2.take s.1=rB l (i+s.2.1)/\∀p,i+s.2.1<=p+1->nA s.2.2 p=nA l p })
      (fun s=> ([(0,.slice (some ⟨sb,0,none⟩) n cap),(3,.int .i64 (s.1.1:Nat)),(4,.slice (some ⟨sb,0+((i:Nat):Int).toNat*1,none⟩) (((n:Nat):Int).toNat-((i:Nat):Int).toNat) (cap-((i:Nat):Int).toNat)),(5,.int .i64 (s.1.2.1:Nat))],[(sb,true,.cells ⟨(tA dec s.1.2.2)++jj⟩ 9 (0,0))])) (fun s=> n-s.1.2.1) ?_
      ⟨(i,1,l),by simp only;omega,by simp only;omega,hn.symm,by simp only;omega,by simp only;rw[hdi,NB],by simp only;rw[hdi],fun p _=> rfl⟩)
     rintro⟨⟨v2,k,u⟩,h1,h2,h3,h4,h5,h6,h7⟩ ih2;simp only at h1 h2 h3 h4 h5 h6 h7;show Tc M St _ _ _ _ [(0,.slice (some ⟨sb,0,none⟩) n cap),(3,.int .i64 (v2:Nat)),(4,.slice (some ⟨sb,0+((i:Nat):Int).toNat*1,none⟩) (((n:Nat):Int).toNat-((i:Nat):Int).toNat) (cap-((i:Nat):Int).toNat)),(5,.int .i64 (k:Nat))] [(sb,true,.cells ⟨(tA dec u)++jj⟩ 9 (0,0))] _ _;have jK:((n:Nat):Int).toNat-((i:Nat):Int).toNat=n-i:=by omega
     rw[jK];by_cases d1:k=n-i
     ·have e5:i+k=n:=by omega
      rw[e5] at h5 h6 h4;have yI:u.length=n:=h3;have hq0:((n:Nat):Int).toNat-((v2:Nat):Int).toNat=n-v2:=by omega
      refine lF ?_;refine .x (xA.slice (E:=en) (off':=0+((v2:Nat):Int).toNat*1) rfl rfl rfl rfl rfl rfl rfl rfl oM oM oM (by rw[if_neg oM] <;> rfl)) ?_;refine .e (Or.clear (E:=en) (c':=(tA dec (rB l n))++(List.replicate (n-v2) (vA [])++jj)) 0 rfl rfl rfl rfl rfl rfl rfl rfl rfl rfl rfl oM ?_ rfl ?_ ?_)
      ·rw[List.length_append,WB];omega
      ·show yE ((tA dec u)++jj) (0+((v2:Nat):Int).toNat*1) (List.replicate (((n:Nat):Int).toNat-((v2:Nat):Int).toNat) (vA []))=_;rw[hq0,Nat.zero_add,Int.toNat_natCast,Nat.mul_one];have e6:u=rB l n++u.drop v2:=by rw[<-h6,List.take_append_drop]
       have e7:(tA dec u)=(tA dec (rB l n))++(tA dec (u.drop v2)):=by
        have h:=congrArg (fun x=> (tA dec x)) e6;refine h.trans ?_;show(tA dec (rB l n++u.drop v2))=_;unfold tA;rw[List.map_append]
       have e8:(tA dec (rB l n)).length=v2:=by rw[WB,<-h5]
       have e9:(tA dec (u.drop v2)).length=n-v2:=by rw[WB,List.length_drop,yI]
       rw[e7,List.append_assoc];unfold yE;rw[List.take_left' e8,List.length_replicate,<-List.drop_drop,List.drop_left' e8,List.drop_left' e9];simp only[List.append_assoc]
      ·refine U5 ?_;refine .x (xA.sliceTo (E:=en) (k:=v2) rfl rfl rfl rfl rfl rfl oM oM) ?_;refine U2 ?_;refine .rt hK func121 results121 [_] ?_;refine fun H' hs=> ⟨fun b x hb hx=> hs.base b x (by rw[HA hb];exact hx),List.replicate (n-v2) (vA [])++jj,?_,?_,?_⟩
       ·rw[<-h5];rfl
       ·rw[List.length_append,List.length_replicate];omega
       ·exact hs.get (i:=0) rfl
     ·have d2:i+k<n:=by omega
      have e2:((k:Nat):Int)-1=((k-1:Nat):Int):=by omega
      have k3:=MJ (dec:=dec) (m:=u) (j:=jj) (o:=0+((i:Nat):Int).toNat*1) (k:=(k:Nat)) (p:=i+k) oM oM;have k4:=MJ (dec:=dec) (m:=u) (j:=jj) (o:=0+((i:Nat):Int).toNat*1) (k:=(k:Nat)-1) (p:=i+k-1) oM oM;have a1:=h7 (i+k) oM;have a2:=h7 (i+k-1) oM;by_cases d3:nA l (i+k)=nA l (i+k-1)
      ·have c5:RL.JF .neq (dec (nA u (i+k))) (dec (nA u (i+k-1)))=some (.bool false):=by rw[a1,a2,d3];simp[RL.JF]
       have T4:rB l (i+(k+1))=rB l (i+k):=by show rB l (i+k+1)=_;rw[rB,if_pos ⟨oM,d3⟩]
       refine ZF ?_;refine Tc.dr [] [] mixed rfl ?_;refine N1 0 ?_;refine .dn ?_;refine U8 ?_;exact Tc.db (ih2 ⟨(v2,k+1,u),by simp only;omega,by simp only;omega,h3,by simp only;omega,by simp only;rw[T4];exact h5,by simp only;rw[T4];exact h6,fun p hp=> h7 p (by simp only at hp;omega)⟩ (by simp only;omega))
      ·have c5:RL.JF .neq (dec (nA u (i+k))) (dec (nA u (i+k-1)))=some (.bool true):=by rw[a1,a2];have:¬dec (nA l (i+k))=dec (nA l (i+k-1)):=fun h=> d3 (hE.inj (zA oM) (zA oM) h);simp[RL.JF,this]
       have T4:rB l (i+(k+1))=rB l (i+k)++[nA l (i+k)]:=by show rB l (i+k+1)=_;rw[rB,if_neg (fun h=> d3 h.2)]
       have s1:=JA (dec:=dec) (m:=u) (j:=jj) (k:=(v2:Nat)) (x:=nA u (i+k)) (p:=v2) rfl oM;have l1:=IA (dec:=dec) (m:=u) (j:=jj) (k:=(v2:Nat)) (p:=v2) rfl oM;refine ZF ?_;refine Tc.dr [] [] mixed rfl ?_;refine N1 0 ?_;refine .dn ?_;refine q9 ?_;exact Tc.db (ih2 ⟨(v2+1,k+1,u.set v2 (nA u (i+k))),by simp only;omega,by simp only;omega,by simp only;rw[List.length_set];exact h3,by simp only;omega,by simp only;rw[T4,List.length_append,<-h5];rfl,by simp only;rw[T4,MN oM,h6,a1],fun p hp=> by simp only at hp ⊢;rw[kY oM];exact h7 p oM⟩ (by simp only;omega))
    ·have c4:RL.JF .eql (dec (nA l i)) (dec (nA l (i-1)))=some (.bool false):=by have:¬dec (nA l i)=dec (nA l (i-1)):=fun h=> c3 (hE.inj (zA oM) (zA oM) h);simp[RL.JF,this]
     refine ZF ?_;refine Tc.dr [] [] mixed rfl ?_;refine N1 0 ?_;refine .dn ?_;refine U8 ?_;exact Tc.db (ih ⟨i+1,oM,oM,by rw[rB,if_neg (fun h=> c3 h.2),g3,cM oM]⟩ (by simp only;omega))
  ·rw[cM (l:=l) (k:=0) oM];rfl
end
theorem LJ {m:List Int}{j:List Value}{k:Int}{o p:Nat}(hk:o+k.toNat*1=p)(hp:p<m.length):BC false 1 ((jA m)++j) (o+k.toNat*1)=some (.int .i64 (nA m p)):=by
 rw[hk];have:=vM (m:=m) (j:=j) (k:=(p:Nat)) (p:=p) rfl hp;rw[Int.toNat_natCast,Nat.zero_add,Nat.mul_one] at this;exact this
def U1(H:View)(sb:Nat)(l:List Int)(jj:List Value)(n cap:Nat)(v:Value)(H':View):Prop:=
 (∀b x,b≠sb->H b=some x->H' b=some x)/\∃rest,v=.slice (some ⟨sb,0,none⟩) (rB l n).length cap/\(rB l n).length+rest.length=n+jj.length/\H' sb=some (true,.cells ⟨(jA (rB l n))++rest⟩ 3 (0,0))
section
variable(M:Md prog)(H:View)
theorem gW(sb:Nat)(l:List Int)(jj:List Value)(n cap:Nat)(hn:n=l.length)(fD:n<=1000000)(ZB:n<=cap)(hS:H sb=some (true,.cells ⟨(jA l)++jj⟩ 3 (0,0))):
  aA M 136 #[.slice (some ⟨sb,0,none⟩) n cap] H (U1 H sb l jj n cap):=by
 by_cases c0:n<2
 ·have e:rB l n=l:=by
   rcases(by omega:n=0\/n=1) with h|h
   ·have:l= []:=List.eq_nil_of_length_eq_zero oM;rw[h,this];rfl
   ·rw[h]
    match l,hn.symm.trans h with
    | [x],_=> rfl
  refine aA.enter (vs:= [.slice (some ⟨sb,0,none⟩) n cap]) func136 rfl ntmps136 (Nat.le_of_ble_eq_true rfl) (kA.pull hS) fun St c cs hK=> ?_;refine BI ?_;refine .rt hK func136 results136 [_] ?_;refine fun H' hs=> ⟨fun b x hb hx=> hs.base b x (by rw[HA hb];exact hx),jj,?_,?_,?_⟩
  ·rw[e,<-hn];rfl
  ·rw[e,<-hn]
  ·rw[e];exact hs.get (i:=0) rfl
 ·refine aA.enter (vs:= [.slice (some ⟨sb,0,none⟩) n cap]) func136 rfl ntmps136 (Nat.le_of_ble_eq_true rfl) (kA.pull hS) fun St c cs hK=> ?_;refine PR ?_;refine Tc.db (Tc.sA (σ:= { i:Nat//1<=i/\i<=n/\rB l i=l.take i }) (fun i=> ([(0,.slice (some ⟨sb,0,none⟩) n cap),(3,.int .i64 (i.1:Nat))],[(sb,true,.cells ⟨(jA l)++jj⟩ 3 (0,0))])) (fun i=> n-i.1) ?_ ⟨1,Nat.le_refl _,oM,?_⟩)
  ·rintro ⟨i,g1,g2,g3⟩ ih;show Tc M St _ _ _ _ [(0,.slice (some ⟨sb,0,none⟩) n cap),(3,.int .i64 (i:Nat))] [(sb,true,.cells ⟨(jA l)++jj⟩ 3 (0,0))] _ _;by_cases c1:i=n
   ·have e:rB l n=l:=by rw[<-c1,g3,c1,hn,List.take_length]
    subst c1;refine kN ?_;refine .rt hK func136 results136 [_] ?_;refine fun H' hs=> ⟨fun b x hb hx=> hs.base b x (by rw[HA hb];exact hx),jj,?_,?_,?_⟩
    ·rw[e,<-hn];rfl
    ·rw[e,<-hn]
    ·rw[e];exact hs.get (i:=0) rfl
   ·have c2 :i<n:=by omega
    have e1:((i:Nat):Int)-1=((i-1:Nat):Int):=by omega
    have k1:=LJ (m:=l) (j:=jj) (o:=0) (k:=(i:Nat)) (p:=i) oM oM;have k2:=LJ (m:=l) (j:=jj) (o:=0) (k:=(i:Nat)-1) (p:=i-1) oM oM;by_cases c3:nA l i=nA l (i-1)
    ·skip
     have hdi:rB l (i+1)=l.take i:=by rw[rB,if_pos ⟨g1,c3⟩,g3]
     have NB:(l.take i).length=i:=by rw[List.length_take];omega
     refine ZF ?_;refine Tc.dr [] [] mixed rfl ?_;refine N1 0 ?_;refine .dn ?_;refine U5 ?_;refine .x (xA.slice (E:=en) (off':=0+((i:Nat):Int).toNat*1) rfl rfl rfl rfl rfl rfl rfl rfl oM oM oM (by rw[if_neg oM] <;> rfl)) ?_;refine U8 ?_;refine Tc.db (Tc.sA (σ:= { s:Nat×Nat×List Int//1<=s.2.1/\s.2.1<=n-i/\s.2.2.length=n/\s.1+1<=i+s.2.1/\s.1=(rB l (i+s.2.1)).length/\s.2.2.take s.1=rB l (i+s.2.1)/\∀p,i+s.2.1<=p+1->nA s.2.2 p=nA l p })
      (fun s=> ([(0,.slice (some ⟨sb,0,none⟩) n cap),(3,.int .i64 (s.1.1:Nat)),(4,.slice (some ⟨sb,0+((i:Nat):Int).toNat*1,none⟩) (((n:Nat):Int).toNat-((i:Nat):Int).toNat) (cap-((i:Nat):Int).toNat)),(5,.int .i64 (s.1.2.1:Nat))],[(sb,true,.cells ⟨(jA s.1.2.2)++jj⟩ 3 (0,0))])) (fun s=> n-s.1.2.1) ?_
      ⟨(i,1,l),by simp only;omega,by simp only;omega,hn.symm,by simp only;omega,by simp only;rw[hdi,NB],by simp only;rw[hdi],fun p _=> rfl⟩)
     rintro⟨⟨v2,k,u⟩,h1,h2,h3,h4,h5,h6,h7⟩ ih2;simp only at h1 h2 h3 h4 h5 h6 h7;show Tc M St _ _ _ _ [(0,.slice (some ⟨sb,0,none⟩) n cap),(3,.int .i64 (v2:Nat)),(4,.slice (some ⟨sb,0+((i:Nat):Int).toNat*1,none⟩) (((n:Nat):Int).toNat-((i:Nat):Int).toNat) (cap-((i:Nat):Int).toNat)),(5,.int .i64 (k:Nat))] [(sb,true,.cells ⟨(jA u)++jj⟩ 3 (0,0))] _ _;have jK:((n:Nat):Int).toNat-((i:Nat):Int).toNat=n-i:=by omega
     rw[jK];by_cases d1:k=n-i
     ·have e5:i+k=n:=by omega
      rw[e5] at h5 h6 h4;have yI:u.length=n:=h3;have hq0:((n:Nat):Int).toNat-((v2:Nat):Int).toNat=n-v2:=by omega
      refine lF ?_;refine .x (xA.slice (E:=en) (off':=0+((v2:Nat):Int).toNat*1) rfl rfl rfl rfl rfl rfl rfl rfl oM oM oM (by rw[if_neg oM] <;> rfl)) ?_;refine .e (Or.clear (E:=en) (c':=(jA (rB l n))++(List.replicate (n-v2) (.int .i64 0)++jj)) 0 rfl rfl rfl rfl rfl rfl rfl rfl rfl rfl rfl oM ?_ rfl ?_ ?_)
      ·rw[List.length_append,uA];omega
      ·show yE ((jA u)++jj) (0+((v2:Nat):Int).toNat*1) (List.replicate (((n:Nat):Int).toNat-((v2:Nat):Int).toNat) (.int .i64 0))=_;rw[hq0,Nat.zero_add,Int.toNat_natCast,Nat.mul_one];have e6:u=rB l n++u.drop v2:=by rw[<-h6,List.take_append_drop]
       have e7:(jA u)=(jA (rB l n))++(jA (u.drop v2)):=by
        have h:=congrArg (fun x=> (jA x)) e6;refine h.trans ?_;show(jA (rB l n++u.drop v2))=_;unfold jA;rw[List.map_append]
       have e8:(jA (rB l n)).length=v2:=by rw[uA,<-h5]
       have e9:(jA (u.drop v2)).length=n-v2:=by rw[uA,List.length_drop,yI]
       rw[e7,List.append_assoc];unfold yE;rw[List.take_left' e8,List.length_replicate,<-List.drop_drop,List.drop_left' e8,List.drop_left' e9];simp only[List.append_assoc]
      ·refine U5 ?_;refine .x (xA.sliceTo (E:=en) (k:=v2) rfl rfl rfl rfl rfl rfl oM oM) ?_;refine U2 ?_;refine .rt hK func136 results136 [_] ?_;refine fun H' hs=> ⟨fun b x hb hx=> hs.base b x (by rw[HA hb];exact hx),List.replicate (n-v2) (.int .i64 0)++jj,?_,?_,?_⟩
       ·rw[<-h5];rfl
       ·rw[List.length_append,List.length_replicate];omega
       ·exact hs.get (i:=0) rfl
     ·have d2:i+k<n:=by omega
      have e2:((k:Nat):Int)-1=((k-1:Nat):Int):=by omega
      have k3:=LJ (m:=u) (j:=jj) (o:=0+((i:Nat):Int).toNat*1) (k:=(k:Nat)) (p:=i+k) oM oM;have k4:=LJ (m:=u) (j:=jj) (o:=0+((i:Nat):Int).toNat*1) (k:=(k:Nat)-1) (p:=i+k-1) oM oM;have a1:=h7 (i+k) oM;have a2:=h7 (i+k-1) oM;by_cases d3:nA l (i+k)=nA l (i+k-1)
      ·have a3:nA u (i+k)=nA u (i+k-1):=by rw[a1,a2,d3]
       have T4:rB l (i+(k+1))=rB l (i+k):=by show rB l (i+k+1)=_;rw[rB,if_pos ⟨oM,d3⟩]
       refine ZF ?_;refine Tc.dr [] [] mixed rfl ?_;refine N1 0 ?_;refine .dn ?_;refine U8 ?_;exact Tc.db (ih2 ⟨(v2,k+1,u),by simp only;omega,by simp only;omega,h3,by simp only;omega,by simp only;rw[T4];exact h5,by simp only;rw[T4];exact h6,fun p hp=> h7 p (by simp only at hp;omega)⟩ (by simp only;omega))
      ·have a3:¬nA u (i+k)=nA u (i+k-1):=by rw[a1,a2];exact d3
       have T4:rB l (i+(k+1))=rB l (i+k)++[nA l (i+k)]:=by show rB l (i+k+1)=_;rw[rB,if_neg (fun h=> d3 h.2)]
       have s1:=xM (m:=u) (j:=jj) (k:=(v2:Nat)) (x:=nA u (i+k)) (p:=v2) rfl oM;have l1:=wM (m:=u) (j:=jj) (k:=(v2:Nat)) (p:=v2) rfl oM;refine ZF ?_;refine Tc.dr [] [] mixed rfl ?_;refine N1 0 ?_;refine .dn ?_;refine q9 ?_;exact Tc.db (ih2 ⟨(v2+1,k+1,u.set v2 (nA u (i+k))),by simp only;omega,by simp only;omega,by simp only;rw[List.length_set];exact h3,by simp only;omega,by simp only;rw[T4,List.length_append,<-h5];rfl,by simp only;rw[T4,MN oM,h6,a1],fun p hp=> by simp only at hp ⊢;rw[kY oM];exact h7 p oM⟩ (by simp only;omega))
    ·skip
     refine ZF ?_;refine Tc.dr [] [] mixed rfl ?_;refine N1 0 ?_;refine .dn ?_;refine U8 ?_;exact Tc.db (ih ⟨i+1,oM,oM,by rw[rB,if_neg (fun h=> c3 h.2),g3,cM oM]⟩ (by simp only;omega))
  ·rw[cM (l:=l) (k:=0) oM];rfl
end
def bl(x:Nat):Nat:=if x=0 then 0 else Nat.log2 x+1
theorem NQ:∀x:Nat,x<64->(UInt8.ofNat (bl x)).toNat=bl x/\bl x<=6/\x<2 ^ bl x/\2 ^ bl x<=2*x+1:=by decide +kernel
theorem nT:∀x:Nat,x<64->IntKind.u8.wrap (x:Int)=(x:Int):=by decide +kernel
section
variable(M:Md prog)(H:View)
theorem JR(x:Nat)(hx:x<64):aA M 266 #[.int .u64 (x:Nat)] H (fun v H'=> H.le H'/\v=.int .i64 (bl x:Nat)):=by
 obtain⟨b1,b2,_,_⟩:=NQ x hx;have hw:=nT x hx;have hw2:IntKind.i64.wrap (((UInt8.ofNat (bl x)).toNat:Nat):Int)=((bl x:Nat):Int):=by rw[b1];exact wrap64 oM oM
 have R4:rA .add .i64 0 ((bl x:Nat):Int)=some (.int .i64 ((bl x:Nat):Int)):=by rw[LB oM oM,Int.zero_add]
 refine .en func266 ntmps266 fun St c cs hK=> ?_;refine U33 ?_;refine .x (xA.FH (c:=UInt8.ofNat (bl x)) rfl rfl rfl (iH ((en.ok _ _ (show en.ty 9=some _ from rfl)).ds.trans rfl)) oM (by
  rw[Int.toNat_natCast];exact(fun(s:ByteArray) (h:∀y:Nat,y<64->s[y]? =some (UInt8.ofNat (bl y)))=> h x hx) _ (by decide +kernel))) ?_
 refine .x (xA.TQ (E:=en) rfl rfl rfl rfl rfl rfl hw2) ?_;refine .i ?_ (z:=R4);refine U2 ?_;refine .rt hK func266 results266 [_] ?_;exact okB
theorem CO(x:Nat)(hx:x<64):aA M 197 #[.int .u64 (x:Nat)] H (fun v H'=> H.le H'/\v=.int .i64 (bl x:Nat)):=by
 refine .en func197 ntmps197 fun St c cs hK=> ?_;refine UC ?_;refine .cl (fun H hs=> JR M H x hx) ?_;refine U2 ?_;refine .rt hK func197 results197 [_] ?_;exact okB
end
theorem mT:∀x:Nat,x<64->IntKind.u64.wrap (x:Int)=(x:Int):=by decide +kernel
section
variable(M:Md prog)(H:View)
theorem aCw(dec:Int->List UInt8)(sb:Nat)(l:List Int)(jj:List Value)(n cap:Nat)(lim:Int)(hn:n=l.length)(hE:SN dec l)(uT:n<=12)(hS:H sb=some (true,.cells ⟨(tA dec l)++jj⟩ 9 (0,0))):
  aA M 196 #[.slice (some ⟨sb,0,none⟩) n cap,.int .i64 0,.int .i64 (n:Nat),.int .i64 lim] H (pB dec H sb jj (fun v m=> v=.tuple ⟨[]⟩/\iA 0 n l m/\TC 0 n m)):=by
 refine aA.enter (vs:= [.slice (some ⟨sb,0,none⟩) n cap,.int .i64 0,.int .i64 (n:Nat),.int .i64 lim]) func196 rfl ntmps196 (Nat.le_of_ble_eq_true rfl) (kA.pull hS) fun St c cs hK=> ?_;refine U7 ?_;refine .done (.block (.loop (.block (.sr ?_))));refine BI ?_;refine .e (Or.YE (dec:=dec) (l:=l) 0 (fun v m=> v=.tuple ⟨[]⟩/\iA 0 n l m/\TC 0 n m) rfl rfl rfl rfl rfl dE rfl (fun H hs=> .h (DL M H dec sb l jj n cap 0 n hn hE oM oM oM (hs.get (i:=0) rfl))) (fun v m hm=> ?_));refine U ?_;obtain⟨rfl,ht,AF⟩:=hm;refine .rt hK func196 results196 [] ?_;exact fun H' hs=> pB.of hs (i:=0) rfl ⟨rfl,ht,AF⟩
theorem k9(dec:Int->List UInt8)(sb:Nat)(l:List Int)(jj:List Value)(n cap:Nat)(hn:n=l.length)(hE:SN dec l)(uT:n<=12)(hS:H sb=some (true,.cells ⟨(tA dec l)++jj⟩ 9 (0,0))):
  aA M 120 #[.slice (some ⟨sb,0,none⟩) n cap] H (pB dec H sb jj (fun v m=> v=.tuple ⟨[]⟩/\iA 0 n l m/\TC 0 n m)):=by
 have hw:=mT n oM;refine aA.enter (vs:= [.slice (some ⟨sb,0,none⟩) n cap]) func120 rfl ntmps120 (Nat.le_of_ble_eq_true rfl) (kA.pull hS) fun St c cs hK=> ?_;refine YD ?_;refine .cl (fun H hs=> CO M H n oM) ?_;refine .e (Or.YE (dec:=dec) (l:=l) 0 (fun v m=> v=.tuple ⟨[]⟩/\iA 0 n l m/\TC 0 n m) rfl rfl rfl rfl rfl dE rfl (fun H hs=> .h (aCw M H dec sb l jj n cap (bl n:Nat) hn hE uT (hs.get (i:=0) rfl))) (fun v m hm=> ?_));refine U ?_;obtain⟨rfl,ht,AF⟩:=hm;refine .ov hK func120 results120 [] ?_;exact fun H' hs=> pB.of hs (i:=0) rfl ⟨rfl,ht,AF⟩
theorem iP(c0:Nat):aA M 256 #[.slice none 0 c0,.int .i64 0,.int .i64 ((0:Nat):Int)] H (fun v H'=> H.le H'/\v=.tuple ⟨[]⟩):=by
 refine .en func256 ntmps256 fun St c cs hK=> ?_;refine U5 ?_;refine .done (.block (.loop (.seq (.sr ?_))));refine U6 ?_;refine .ov hK func256 results256 [] ?_;exact okB
theorem O6(c0:Nat)(lim:Int):aA M 196 #[.slice none 0 c0,.int .i64 0,.int .i64 ((0:Nat):Int),.int .i64 lim] H (fun v H'=> H.le H'/\v=.tuple ⟨[]⟩):=by
 refine .en func196 ntmps196 fun St c cs hK=> ?_;refine U7 ?_;refine .done (.block (.loop (.block (.sr ?_))));refine BI ?_;refine .cl (fun H hs=> iP M H c0) ?_;refine U ?_;refine .rt hK func196 results196 [] ?_;exact okB
theorem JQ(c0:Nat):aA M 120 #[.slice none 0 c0] H (fun v H'=> H.le H'/\v=.tuple ⟨[]⟩):=by
 have hw:=mT 0 oM;refine .en func120 ntmps120 fun St c cs hK=> ?_;refine YD ?_;refine .cl (fun H hs=> CO M H 0 oM) ?_;refine .cl (fun H hs=> O6 M H c0 (bl 0:Nat)) ?_;refine U ?_;refine .ov hK func120 results120 [] ?_;exact okB
theorem FR(c0:Nat):aA M 121 #[.slice none 0 c0] H (fun v H'=> H.le H'/\v=.slice none 0 c0):=by
 refine .en func121 ntmps121 fun St c cs hK=> ?_;refine BI ?_;refine .rt hK func121 results121 [_] ?_;exact okB
end
def Gl.DR(g:Gl 9 1)(m:List Value)(h:m.length=g.n):Gl 9 1:=⟨g.blk,g.n,g.cap,m,g.HB,by rw[h,Nat.mul_one],g.hc,g.hj,g.h0⟩
theorem Or.aFC {dec:Int->List UInt8}{M:Md prog}{n:Nat}{H₀:View}{R:Rg}{L1:Bl}{o:Oper}{K:Rg->Bl->Prop}{cl:Go.Call}{x:Operand}{fv:Value}{d:Nat}(g:Gl 9 1)(u:List Int)(hg:g.l=(tA dec u))(hE:SN dec u)(uT:g.n<=12)
  (qA:o.op=.call cl) (yB:cl.callee=.value x) (hx:RA R x=some fv) (has:FD R cl.args.toList=some [g.val]) (hd:o.dst=some d) (hn:d<n)
  (hc:∀(H:View) (Q:Value->View->Prop),aA M 120 #[g.val] H Q->CB M fv [g.val] H Q)
  (hK:∀(g':Gl 9 1) (m:List Int),g'.val=g.val->g'.n=g.n->g'.blk=g.blk->g'.l=(tA dec m)->iA 0 g.n u m->TC 0 g.n m->K ((d,.tuple ⟨[]⟩)::R) (L1++g'.bl)):Or M n H₀ R (L1++g.bl) o K:=by
 have yI:u.length=g.n:=by have:=g.hl;rw[hg,WB] at this;omega
 cases hb:g.blk with
 | none=>
  have ZB:=g.h0 hb;have C8:=g.hc;have h0:g.n=0:=by omega
  have QJ:g.bl= []:=by unfold Gl.bl;rw[hb]
  have hv:g.val=.slice none 0 g.cap:=by unfold Gl.val;rw[hb,h0];rfl
  refine Or.SB (fun _:Unit=> .tuple ⟨[]⟩) (fun _=> []) (fun _=> True) qA yB hx has hd hn (fun _=> by simp) (fun H hs=> hc H _ ?_) (fun _ _=> ?_)
  ·rw[hv];exact aA.mono (JQ M H g.cap) (fun v H' ⟨h1,h2⟩=> ⟨h1,(),h2,trivial,by simp⟩)
  ·rw[List.append_nil];exact hK g u rfl rfl rfl hg (iA.refl _ _ _) (fun p q h1 h2 h3=> by omega)
 | some b=>
  have QJ:g.bl= [(b,true,.cells ⟨(tA dec u)++g.HB⟩ 9 (0,0))]:=by unfold Gl.bl;rw[hb,hg]
  have hv:g.val=.slice (some ⟨b,0,none⟩) g.n g.cap:=by unfold Gl.val;rw[hb];rfl
  rw[QJ];refine Or.YE (dec:=dec) (l:=u) L1.length (fun v m=> v=.tuple ⟨[]⟩/\iA 0 g.n u m/\TC 0 g.n m) qA yB hx has hd hn (by rw[List.getElem?_append_right (Nat.le_refl _),Nat.sub_self];rfl)
   (fun H hs=> hc H _ ?_) (fun v m ⟨h1,h2,h3⟩=> ?_)
  ·rw[hv];exact k9 M H dec b u g.HB g.n g.cap yI.symm hE uT (hs.get (i:=L1.length) (by rw[List.getElem?_append_right (Nat.le_refl _),Nat.sub_self];rfl))
  ·subst h1;have HM:m.length=g.n:=by rw[h2.len];exact yI
   have:=hK (Gl.DR g (tA dec m) (by rw[WB];exact HM)) m rfl rfl rfl rfl h2 h3;have VW:(Gl.DR g (tA dec m) (by rw[WB];exact HM)).bl= [(b,true,.cells ⟨(tA dec m)++g.HB⟩ 9 (0,0))]:=by
    unfold Gl.bl Gl.DR;simp only[hb]
   rw[VW] at this;rw[List.set_append_right _ _ (Nat.le_refl _),Nat.sub_self];exact this
theorem Or.N9 {dec:Int->List UInt8}{M:Md prog}{n:Nat}{H₀:View}{R:Rg}{L1:Bl}{o:Oper}{K:Rg->Bl->Prop}{cl:Go.Call}{x:Operand}{fv:Value}{d:Nat}(g:Gl 9 1)(u:List Int)(hg:g.l=(tA dec u))(hE:SN dec u)(uT:g.n<=100000000)
  (qA:o.op=.call cl) (yB:cl.callee=.value x) (hx:RA R x=some fv) (has:FD R cl.args.toList=some [g.val]) (hd:o.dst=some d) (hn:d<n)
  (hc:∀(H:View) (Q:Value->View->Prop),aA M 121 #[g.val] H Q->CB M fv [g.val] H Q)
  (hK:∀(g':Gl 9 1),g'.n=(rB u g.n).length->g'.l=(tA dec (rB u g.n))->K ((d,g'.val)::R) (L1++g'.bl)):Or M n H₀ R (L1++g.bl) o K:=by
 have yI:u.length=g.n:=by have:=g.hl;rw[hg,WB] at this;omega
 cases hb:g.blk with
 | none=>
  have ZB:=g.h0 hb;have C8:=g.hc;have h0:g.n=0:=by omega
  have QJ:g.bl= []:=by unfold Gl.bl;rw[hb]
  have hv:g.val=.slice none 0 g.cap:=by unfold Gl.val;rw[hb,h0];rfl
  have S1:u= []:=List.eq_nil_of_length_eq_zero oM;refine Or.SB (fun _:Unit=> g.val) (fun _=> []) (fun _=> True) qA yB hx has hd hn (fun _=> by simp) (fun H hs=> hc H _ ?_) (fun _ _=> ?_)
  ·rw[hv];exact aA.mono (FR M H g.cap) (fun v H' ⟨h1,h2⟩=> ⟨h1,(),h2,trivial,by simp⟩)
  ·rw[List.append_nil];refine hK g (by rw[h0];rfl) ?_;rw[hg,S1,h0];rfl
 | some b=>
  have QJ:g.bl= [(b,true,.cells ⟨(tA dec u)++g.HB⟩ 9 (0,0))]:=by unfold Gl.bl;rw[hb,hg]
  have hv:g.val=.slice (some ⟨b,0,none⟩) g.n g.cap:=by unfold Gl.val;rw[hb];rfl
  rw[QJ];have hi:(L1++[(b,true,Obj.cells ⟨(tA dec u)++g.HB⟩ 9 (0,0))])[L1.length]? =some (b,true,Obj.cells ⟨(tA dec u)++g.HB⟩ 9 (0,0)):=by rw[List.getElem?_append_right (Nat.le_refl _),Nat.sub_self];rfl
  refine .pN qA yB hx has (Q:=fun H v H'=> V1 dec H b u g.HB g.n g.cap v H') (fun H hs=> hc H _ ?_) (fun H v H' hs hq=> ?_)
  ·rw[hv];exact iW M H dec b u g.HB g.n g.cap yI.symm hE uT g.hc (hs.get hi)
  ·obtain⟨h1,rest,h2,h3,h4⟩:=hq;subst h2;have hle:=dS u g.n;have C8:=g.hc;have hgj:=g.hj;refine⟨L1++[(b,true,.cells ⟨(tA dec (rB u g.n))++rest⟩ 9 (0,0))],_,?_,by rw[hd];exact⟨hn,rfl⟩,?_⟩
   ·have:=qG hs hi h1 h4;rw[List.set_append_right _ _ (Nat.le_refl _),Nat.sub_self] at this;exact this
   ·have:=hK ⟨some b,(rB u g.n).length,g.cap,(tA dec (rB u g.n)),rest,by rw[WB,Nat.mul_one],oM,oM,fun h=> by cases h⟩ rfl rfl;exact this
section
variable(M:Md prog)(H:View)
theorem aCv(sb:Nat)(l:List Int)(jj:List Value)(n cap:Nat)(lim:Int)(hn:n=l.length)(uT:n<=12)(hS:H sb=some (true,.cells ⟨(jA l)++jj⟩ 3 (0,0))):
  aA M 222 #[.slice (some ⟨sb,0,none⟩) n cap,.int .i64 0,.int .i64 (n:Nat),.int .i64 lim] H (wD H sb jj (fun v m=> v=.tuple ⟨[]⟩/\iA 0 n l m/\TC 0 n m)):=by
 refine aA.enter (vs:= [.slice (some ⟨sb,0,none⟩) n cap,.int .i64 0,.int .i64 (n:Nat),.int .i64 lim]) func222 rfl ntmps222 (Nat.le_of_ble_eq_true rfl) (kA.pull hS) fun St c cs hK=> ?_;refine U7 ?_;refine .done (.block (.loop (.block (.sr ?_))));refine BI ?_;refine .e (Or.bT (l:=l) 0 (fun v m=> v=.tuple ⟨[]⟩/\iA 0 n l m/\TC 0 n m) rfl rfl rfl rfl rfl dE rfl (fun H hs=> .h (BS M H sb l jj n cap 0 n hn oM oM oM (hs.get (i:=0) rfl))) (fun v m hm=> ?_));refine U ?_;obtain⟨rfl,ht,AF⟩:=hm;refine .rt hK func222 results222 [] ?_;exact fun H' hs=> wD.of hs (i:=0) rfl ⟨rfl,ht,AF⟩
theorem j9(sb:Nat)(l:List Int)(jj:List Value)(n cap:Nat)(hn:n=l.length)(uT:n<=12)(hS:H sb=some (true,.cells ⟨(jA l)++jj⟩ 3 (0,0))):
  aA M 135 #[.slice (some ⟨sb,0,none⟩) n cap] H (wD H sb jj (fun v m=> v=.tuple ⟨[]⟩/\iA 0 n l m/\TC 0 n m)):=by
 have hw:=mT n oM;refine aA.enter (vs:= [.slice (some ⟨sb,0,none⟩) n cap]) func135 rfl ntmps135 (Nat.le_of_ble_eq_true rfl) (kA.pull hS) fun St c cs hK=> ?_;refine YD ?_;refine .cl (fun H hs=> CO M H n oM) ?_;refine .e (Or.bT (l:=l) 0 (fun v m=> v=.tuple ⟨[]⟩/\iA 0 n l m/\TC 0 n m) rfl rfl rfl rfl rfl dE rfl (fun H hs=> .h (aCv M H sb l jj n cap (bl n:Nat) hn uT (hs.get (i:=0) rfl))) (fun v m hm=> ?_));refine U ?_;obtain⟨rfl,ht,AF⟩:=hm;refine .ov hK func135 results135 [] ?_;exact fun H' hs=> wD.of hs (i:=0) rfl ⟨rfl,ht,AF⟩
theorem gP(c0:Nat):aA M 272 #[.slice none 0 c0,.int .i64 0,.int .i64 ((0:Nat):Int)] H (fun v H'=> H.le H'/\v=.tuple ⟨[]⟩):=by
 refine .en func272 ntmps272 fun St c cs hK=> ?_;refine U5 ?_;refine .done (.block (.loop (.seq (.sr ?_))));refine U6 ?_;refine .ov hK func272 results272 [] ?_;exact okB
theorem N6(c0:Nat)(lim:Int):aA M 222 #[.slice none 0 c0,.int .i64 0,.int .i64 ((0:Nat):Int),.int .i64 lim] H (fun v H'=> H.le H'/\v=.tuple ⟨[]⟩):=by
 refine .en func222 ntmps222 fun St c cs hK=> ?_;refine U7 ?_;refine .done (.block (.loop (.block (.sr ?_))));refine BI ?_;refine .cl (fun H hs=> gP M H c0) ?_;refine U ?_;refine .rt hK func222 results222 [] ?_;exact okB
theorem lZ(c0:Nat):aA M 135 #[.slice none 0 c0] H (fun v H'=> H.le H'/\v=.tuple ⟨[]⟩):=by
 have hw:=mT 0 oM;refine .en func135 ntmps135 fun St c cs hK=> ?_;refine YD ?_;refine .cl (fun H hs=> CO M H 0 oM) ?_;refine .cl (fun H hs=> N6 M H c0 (bl 0:Nat)) ?_;refine U ?_;refine .ov hK func135 results135 [] ?_;exact okB
theorem ER(c0:Nat):aA M 136 #[.slice none 0 c0] H (fun v H'=> H.le H'/\v=.slice none 0 c0):=by
 refine .en func136 ntmps136 fun St c cs hK=> ?_;refine BI ?_;refine .rt hK func136 results136 [_] ?_;exact okB
end
def Gl.l8(g:Gl 3 1)(m:List Value)(h:m.length=g.n):Gl 3 1:=⟨g.blk,g.n,g.cap,m,g.HB,by rw[h,Nat.mul_one],g.hc,g.hj,g.h0⟩
theorem Or.aAO {M:Md prog}{n:Nat}{H₀:View}{R:Rg}{L1:Bl}{o:Oper}{K:Rg->Bl->Prop}{cl:Go.Call}{x:Operand}{fv:Value}{d:Nat}(g:Gl 3 1)(u:List Int)(hg:g.l=(jA u))(uT:g.n<=12)
  (qA:o.op=.call cl) (yB:cl.callee=.value x) (hx:RA R x=some fv) (has:FD R cl.args.toList=some [g.val]) (hd:o.dst=some d) (hn:d<n)
  (hc:∀(H:View) (Q:Value->View->Prop),aA M 135 #[g.val] H Q->CB M fv [g.val] H Q)
  (hK:∀(g':Gl 3 1) (m:List Int),g'.val=g.val->g'.n=g.n->g'.blk=g.blk->g'.l=(jA m)->iA 0 g.n u m->TC 0 g.n m->K ((d,.tuple ⟨[]⟩)::R) (L1++g'.bl)):Or M n H₀ R (L1++g.bl) o K:=by
 have yI:u.length=g.n:=by have:=g.hl;rw[hg,uA] at this;omega
 cases hb:g.blk with
 | none=>
  have ZB:=g.h0 hb;have C8:=g.hc;have h0:g.n=0:=by omega
  have QJ:g.bl= []:=by unfold Gl.bl;rw[hb]
  have hv:g.val=.slice none 0 g.cap:=by unfold Gl.val;rw[hb,h0];rfl
  refine Or.SB (fun _:Unit=> .tuple ⟨[]⟩) (fun _=> []) (fun _=> True) qA yB hx has hd hn (fun _=> by simp) (fun H hs=> hc H _ ?_) (fun _ _=> ?_)
  ·rw[hv];exact aA.mono (lZ M H g.cap) (fun v H' ⟨h1,h2⟩=> ⟨h1,(),h2,trivial,by simp⟩)
  ·rw[List.append_nil];exact hK g u rfl rfl rfl hg (iA.refl _ _ _) (fun p q h1 h2 h3=> by omega)
 | some b=>
  have QJ:g.bl= [(b,true,.cells ⟨(jA u)++g.HB⟩ 3 (0,0))]:=by unfold Gl.bl;rw[hb,hg]
  have hv:g.val=.slice (some ⟨b,0,none⟩) g.n g.cap:=by unfold Gl.val;rw[hb];rfl
  rw[QJ];refine Or.bT (l:=u) L1.length (fun v m=> v=.tuple ⟨[]⟩/\iA 0 g.n u m/\TC 0 g.n m) qA yB hx has hd hn (by rw[List.getElem?_append_right (Nat.le_refl _),Nat.sub_self];rfl)
   (fun H hs=> hc H _ ?_) (fun v m ⟨h1,h2,h3⟩=> ?_)
  ·rw[hv];exact j9 M H b u g.HB g.n g.cap yI.symm uT (hs.get (i:=L1.length) (by rw[List.getElem?_append_right (Nat.le_refl _),Nat.sub_self];rfl))
  ·subst h1;have HM:m.length=g.n:=by rw[h2.len];exact yI
   have:=hK (Gl.l8 g (jA m) (by rw[uA];exact HM)) m rfl rfl rfl rfl h2 h3;have VW:(Gl.l8 g (jA m) (by rw[uA];exact HM)).bl= [(b,true,.cells ⟨(jA m)++g.HB⟩ 3 (0,0))]:=by
    unfold Gl.bl Gl.l8;simp only[hb]
   rw[VW] at this;rw[List.set_append_right _ _ (Nat.le_refl _),Nat.sub_self];exact this
theorem Or.M9 {M:Md prog}{n:Nat}{H₀:View}{R:Rg}{L1:Bl}{o:Oper}{K:Rg->Bl->Prop}{cl:Go.Call}{x:Operand}{fv:Value}{d:Nat}(g:Gl 3 1)(u:List Int)(hg:g.l=(jA u))(uT:g.n<=1000000)
  (qA:o.op=.call cl) (yB:cl.callee=.value x) (hx:RA R x=some fv) (has:FD R cl.args.toList=some [g.val]) (hd:o.dst=some d) (hn:d<n)
  (hc:∀(H:View) (Q:Value->View->Prop),aA M 136 #[g.val] H Q->CB M fv [g.val] H Q)
  (hK:∀(g':Gl 3 1),g'.n=(rB u g.n).length->g'.l=(jA (rB u g.n))->K ((d,g'.val)::R) (L1++g'.bl)):Or M n H₀ R (L1++g.bl) o K:=by
 have yI:u.length=g.n:=by have:=g.hl;rw[hg,uA] at this;omega
 cases hb:g.blk with
 | none=>
  have ZB:=g.h0 hb;have C8:=g.hc;have h0:g.n=0:=by omega
  have QJ:g.bl= []:=by unfold Gl.bl;rw[hb]
  have hv:g.val=.slice none 0 g.cap:=by unfold Gl.val;rw[hb,h0];rfl
  have S1:u= []:=List.eq_nil_of_length_eq_zero oM;refine Or.SB (fun _:Unit=> g.val) (fun _=> []) (fun _=> True) qA yB hx has hd hn (fun _=> by simp) (fun H hs=> hc H _ ?_) (fun _ _=> ?_)
  ·rw[hv];exact aA.mono (ER M H g.cap) (fun v H' ⟨h1,h2⟩=> ⟨h1,(),h2,trivial,by simp⟩)
  ·rw[List.append_nil];refine hK g (by rw[h0];rfl) ?_;rw[hg,S1,h0];rfl
 | some b=>
  have QJ:g.bl= [(b,true,.cells ⟨(jA u)++g.HB⟩ 3 (0,0))]:=by unfold Gl.bl;rw[hb,hg]
  have hv:g.val=.slice (some ⟨b,0,none⟩) g.n g.cap:=by unfold Gl.val;rw[hb];rfl
  rw[QJ];have hi:(L1++[(b,true,Obj.cells ⟨(jA u)++g.HB⟩ 3 (0,0))])[L1.length]? =some (b,true,Obj.cells ⟨(jA u)++g.HB⟩ 3 (0,0)):=by rw[List.getElem?_append_right (Nat.le_refl _),Nat.sub_self];rfl
  refine .pN qA yB hx has (Q:=fun H v H'=> U1 H b u g.HB g.n g.cap v H') (fun H hs=> hc H _ ?_) (fun H v H' hs hq=> ?_)
  ·rw[hv];exact gW M H b u g.HB g.n g.cap yI.symm uT g.hc (hs.get hi)
  ·obtain⟨h1,rest,h2,h3,h4⟩:=hq;subst h2;have hle:=dS u g.n;have C8:=g.hc;have hgj:=g.hj;refine⟨L1++[(b,true,.cells ⟨(jA (rB u g.n))++rest⟩ 3 (0,0))],_,?_,by rw[hd];exact⟨hn,rfl⟩,?_⟩
   ·have:=qG hs hi h1 h4;rw[List.set_append_right _ _ (Nat.le_refl _),Nat.sub_self] at this;exact this
   ·have:=hK ⟨some b,(rB u g.n).length,g.cap,(jA (rB u g.n)),rest,by rw[uA,Nat.mul_one],oM,oM,fun h=> by cases h⟩ rfl rfl;exact this
set_option maxHeartbeats 16000000
def Bk.qI(k:Bk)(line:Nat)(s:List UInt8):Option Int:=match k.line s with
 | some j=> if j=line then none else some (j:Nat)
 | none=> none
def Bk.cP(k:Bk)(line:Nat):List Int:=(rH (k.num line)).filterMap (k.qI line)
def aDJ(g:Gl 3 1)(a:Int):Value:=.tuple ⟨[g.val,.int .i64 a]⟩
theorem Bk.kP {k:Bk}(ha:k.VA=0){i:Nat}(hi:i<k.nl):(k.num i).all TE=true/\1<=(k.num i).length/\(k.num i).length<=3:=by
 obtain⟨_,_,h,_⟩:=Bk.QY ha hi;unfold isNum at h;simp only[Bool.and_eq_true,decide_eq_true_eq] at h;exact⟨h.2,h.1.1,h.1.2⟩
theorem yK(s:List UInt8):∀m i,s.length-i=m->(xC s i).length<=2*m
 | 0,i,h=> by rw[zK oM];exact Nat.le_refl _
 | m + 1,i,h=> by
  rw[uJ oM,List.length_append];have h1:=yK s m (i+1) oM;have h2:(dI s i).length<=2:=by
   unfold dI tJ;rw[List.length_append];split <;> split <;> simp
  omega
theorem Bk.j5 {k:Bk}(ha:k.VA=0){i:Nat}(hi:i<k.nl):(k.cP i).length<=6:=by
 obtain⟨_,_,h⟩:=Bk.kP ha hi;have h1:=yK (k.num i) _ 0 rfl;have h2:(k.cP i).length<=(rH (k.num i)).length:=List.length_filterMap_le _ _;unfold rH at h2;omega
section
variable(M:Md prog)(H:View)
theorem c9(k:Bk)(A:Option Addr)(lc:Nat)(B:Option Addr)(tc:Nat)(hk:GD H k A lc B tc)(hn:k.small)(hG:HC H)(ha:k.VA=0)(line:Nat)(hl:line<k.nl):
  aA M 55 #[k.val A lc B tc,.int .i64 (line:Nat)] H (fun v H'=> H.le H'/\∃(g:Gl 3 1) (m:List Int),v=aDJ g 0/\(iA 0 (k.cP line).length (k.cP line) m/\TC 0 (k.cP line).length m)/\(g.n=(rB m m.length).length/\g.l=jA (rB m m.length))/\∀x∈g.bl,H' x.1=some x.2/\H x.1=none):=by
 obtain⟨YW,hl1,FU⟩:=Bk.kP ha hl;have mQ:=hn.nl;have hhl:=Bk.j5 ha hl;have hb:=fun(H':View)=> CA M H' ((line:Nat):Int) 0 ((k.nl:Int)-1) true (decide_eq_true oM);have qA:=fun(H':View) (h':H.le H')=> FC M H' k A lc B tc (hk.le h') hn (EA hG h') ha;have sU:=hk.rows;obtain⟨_,h0|⟨ab,ao,fa,gs,gt,gz,rfl,pI,E5⟩⟩:=sU
 ·omega
 obtain⟨F,fc,f1,_,_⟩:=E5 line hl;have f2:BC false 1 gs (ao+((line:Nat):Int).toNat*3+1)=some (vA (k.num line)):=GH f1 dE;refine .en func55 ntmps55 fun St c cs hK=> ?_;refine U2 ?_;refine .bo fun b2=> ?_;refine .bo fun b3=> ?_;refine U4 ?_;refine Tc.dr [12] [] mixed rfl ?_;refine V6 0 ?_;refine .z 6 rfl (xA.tk fun H hs=> hb H) ?_;refine .z 7 rfl (xA.tk fun H hs=> qA H hs.base) ?_;refine V2 8 ?_;refine .nw 10 ?_;refine .ea 11 rfl (.al (zz:=fun b6=> ⟨S2.mk sL (.inr sL),?_⟩));refine .e 12 0 ?_;refine .nw 13 ?_;refine .dn ?_;refine UC ?_;refine .al fun b8=> ?_;refine UC ?_;refine To.sB rfl rfl rfl rfl rfl rfl dE (CB.h (ZS M H (k.num line))) (fun v H₁ hv=> ?_);obtain⟨XC,sb,rfl,ZB⟩:=hv;refine U ?_;have qI:=fun(H':View) (hc:nG (k.num line) sb H')=> SP M H' (k.num line) YW oM sb hc;refine U ?_;refine Tc.db (R':= [(2,.pointer (some ⟨b2,0,none⟩)),(3,.pointer (some ⟨b3,0,none⟩)),(6,.pointer (some ⟨b6,0,none⟩)),(8,.pointer (some ⟨b8,0,none⟩)),(31,EV sb)]) (L':= [(b8,true,.cells ⟨[(Gl.nil 3 1).val]⟩ 24 (0,0)),(b6,true,.cells ⟨(k.val (some ⟨ab,ao,none⟩) lc B tc).cells.toList⟩ 166 (0,0)),(b3,true,.cells ⟨[.int .i64 (line:Nat)]⟩ 3 (0,0)),(b2,true,.cells ⟨(k.val (some ⟨ab,ao,none⟩) lc B tc).cells.toList⟩ 45 (0,0))]) ?_;refine Tc.aI (A:= []) (ts:= [32]) (xs:=rH (k.num line)) (fun rest H₄ L₄=> ∃(g:Gl 3 1) (dn:List Int),L₄= [(b8,true,.cells ⟨[g.val]⟩ 24 (0,0)),(b6,true,.cells ⟨(k.val (some ⟨ab,ao,none⟩) lc B tc).cells.toList⟩ 166 (0,0)),(b3,true,.cells ⟨[.int .i64 (line:Nat)]⟩ 3 (0,0)),(b2,true,.cells ⟨(k.val (some ⟨ab,ao,none⟩) lc B tc).cells.toList⟩ 45 (0,0))]++g.bl
   /\g.l=jA dn/\dn++rest.filterMap (k.qI line)=k.cP line/\nG (k.num line) sb H₄/\H₁.le H₄) (fun _ _ _=> False) rfl rfl rfl rfl qI (fun _ _=> nG.le _ _) (fun _ _ _ ⟨_,_,_,_,_,h,_⟩=> h) rfl (fun _ _=> rfl)
   ⟨Gl.nil 3 1,[],rfl,rfl,rfl,ZB,View.le_refl _⟩ ?_ ?_ (fun _ _ _ _ h=> h.elim)
 ·rintro r x rest _ l tmps asg bdy H₄ _ hx ⟨g,dn,rfl,q1,q2,q3,q4⟩ Q St1 cc1 cs1 eK q q';have zN:=fun(H':View) (h':H₄.le H')=> tP M H' k (some ⟨ab,ao,none⟩) lc B tc (hk.rows.le (View.le_trans XC (View.le_trans q4 h'))) hn.nl x;have iK:g.n=dn.length:=by have:=g.hl;rw[q1,uA] at this;omega
  have ZQ:dn.length<=6:=by
   have:=congrArg List.length q2;rw[List.length_append] at this;omega
  cases hlx:k.line x with
  | none=>
   rw[hlx] at zN;have e2:wB none= -1:=rfl;rw[e2] at zN;have e3:k.qI line x=none:=by unfold Bk.qI;rw[hlx]
   rw[List.filterMap_cons_none e3] at q2;refine U3 ?_;refine Tc.beginRound (i:=0) rfl rfl rfl ?_;refine U5 ?_;refine .cl (fun H hs=> zN H hs.base) ?_;refine kN ?_;refine Tc.FA eK (i:=0) rfl (.inl ⟨rfl,rfl⟩) (fun H' hs=> q H' H₄ _ hs ⟨g,dn,rfl,q1,q2,q3,q4⟩)
  | some j=>
   rw[hlx] at zN;have e2:wB (some j)=(j:Nat):=rfl;rw[e2] at zN;by_cases c1:j=line
   ·have e3:k.qI line x=none:=by unfold Bk.qI;rw[hlx];exact if_pos c1
    rw[List.filterMap_cons_none e3] at q2;refine U3 ?_;refine Tc.beginRound (i:=0) rfl rfl rfl ?_;refine U5 ?_;refine .cl (fun H hs=> zN H hs.base) ?_;refine kN ?_;refine Tc.FA eK (i:=0) rfl (.inl ⟨rfl,rfl⟩) (fun H' hs=> q H' H₄ _ hs ⟨g,dn,rfl,q1,q2,q3,q4⟩)
   ·have e3:k.qI line x=some (j:Nat):=by unfold Bk.qI;rw[hlx];exact if_neg c1
    rw[List.filterMap_cons_some e3] at q2;refine U3 ?_;refine Tc.beginRound (i:=0) rfl rfl rfl ?_;refine U5 ?_;refine .cl (fun H hs=> zN H hs.base) ?_;refine lN ?_;refine .e (.bs (zz:=fun bs=> ?_));refine .e (Or.append (E:=en) 7 rfl rfl rfl rfl rfl rfl rfl rfl rfl rfl rfl rfl rfl rfl rfl (fun H hs=> UA.of (hs.get (i:=0) rfl) (Nat.le_of_ble_eq_true rfl)) rfl oM rfl dE (fun g' aW xN=> ?_));refine U3 ?_;refine Tc.FA eK (i:=1) rfl (.inl ⟨rfl,rfl⟩) (fun H' hs=> q H' H₄ _ (hs.less sL) ⟨g',dn++[((j:Nat):Int)],rfl,by rw[xN,q1];unfold jA;rw[List.map_append];rfl,by rw[List.append_assoc];exact q2,q3,q4⟩)
 ·rintro r H₄ _ ⟨g,dn,rfl,q1,q2,q3,q4⟩;have q5:dn=k.cP line:=by rw[<-q2];simp
  subst q5;have iK:g.n=(k.cP line).length:=by have:=g.hl;rw[q1,uA] at this;omega
  refine U4 ?_;refine .e (Or.aAO (L1:= [(r,true,.deferred (some [])),(b8,true,.cells ⟨[g.val]⟩ 24 (0,0)),(b6,true,.cells ⟨(k.val (some ⟨ab,ao,none⟩) lc B tc).cells.toList⟩ 166 (0,0)),(b3,true,.cells ⟨[.int .i64 (line:Nat)]⟩ 3 (0,0)),(b2,true,.cells ⟨(k.val (some ⟨ab,ao,none⟩) lc B tc).cells.toList⟩ 45 (0,0))]) g (k.cP line) q1 oM rfl rfl rfl rfl rfl dE (fun H Q h=> .h h) (fun g' m lX ZK uS dX ht hs'=> ?_));rw[<-lX];rw[iK] at ht hs' ZK;have HM:m.length=(k.cP line).length:=ht.len;refine U4 ?_;refine .e (Or.M9 (L1:= [(r,true,.deferred (some [])),(b8,true,.cells ⟨[g'.val]⟩ 24 (0,0)),(b6,true,.cells ⟨(k.val (some ⟨ab,ao,none⟩) lc B tc).cells.toList⟩ 166 (0,0)),(b3,true,.cells ⟨[.int .i64 (line:Nat)]⟩ 3 (0,0)),(b2,true,.cells ⟨(k.val (some ⟨ab,ao,none⟩) lc B tc).cells.toList⟩ 45 (0,0))]) g' m dX oM rfl rfl rfl rfl rfl dE (fun H Q h=> .h h) (fun g2 NZ FU=> ?_));rw[ZK,<-HM] at NZ FU;refine U3 ?_;refine Tc.gO (E:=en) (i:=0) hK func55 results55 (vs:= [_,_]) rfl ⟨rfl,rfl,trivial⟩ ?_;exact fun H' hs=> ⟨View.le_trans XC (View.le_trans q4 hs.base),g2,m,rfl,⟨ht,hs'⟩,⟨NZ,FU⟩,fun x hx=> ⟨hs.at_ x (by simp[hx]),none_le (View.le_trans XC q4) (hs.out x (by simp[hx]))⟩⟩
end
def Bk.XY(k:Bk)(s:List UInt8):Bool:=(rH s).all fun x=> (k.line x).isNone
def Bk.XS(k:Bk)(s:List UInt8)(i:Nat):Bool:=(rH (k.num i)).all fun x=> !AB x s
def Bk.safe(k:Bk)(s:List UInt8):Bool:=k.XY s&&rG (k.XS s) k.nl
def KB(s:List UInt8):Nat:=(s.map pn).sum
theorem aK(s:List UInt8)(h:s.all TE=true):KB s<=10*s.length:=by
 induction s with
 | nil=> exact Nat.le_refl _
 | cons x t ih=>
  rw[List.all_cons,Bool.and_eq_true] at h;have h1:=ih h.2;have h2:=S6 h.1;unfold KB at h1 ⊢;rw[List.map_cons,List.sum_cons,List.length_cons];omega
theorem X0 {s:List UInt8}{p:Nat}{x:UInt8}(h:s[p]? =some x):KB (s.take (p+1))=KB (s.take p)+pn x:=by
 obtain⟨hp,rfl⟩:=List.getElem?_eq_some_iff.1 h;unfold KB;rw[List.take_succ_eq_append_getElem hp,List.map_append,List.sum_append];rfl
section
variable(M:Md prog)(H:View)
theorem l7(k:Bk)(A:Option Addr)(lc:Nat)(B:Option Addr)(tc:Nat)(hk:GD H k A lc B tc)(hn:k.small)(ha:k.VA=0)(s:List UInt8)(eR:s.all TE=true)(IY:s.length<=1000):
  aA M 138 #[k.val A lc B tc,vA s] H (fun v H'=> H.le H'/\v=.bool (k.safe s)):=by
 have mQ:=hn.nl;refine .en func138 ntmps138 fun St c cs hK=> ?_;refine U2 ?_;refine .bo fun b2=> ?_;refine .bo fun b3=> ?_;refine .al fun b4=> ?_;refine U5 ?_;refine To.sB rfl rfl rfl rfl rfl rfl dE (CB.h (ZS M H s)) (fun v H₁ hv=> ?_);obtain⟨XC,sb,rfl,ZB⟩:=hv;refine U ?_;have qI:=fun(H':View) (hc:nG s sb H')=> SP M H' s eR IY sb hc;refine U ?_;refine Tc.db (R':= [(2,.pointer (some ⟨b2,0,none⟩)),(3,.pointer (some ⟨b3,0,none⟩)),(4,.pointer (some ⟨b4,0,none⟩)),(10,EV sb)]) (L':= [(b4,true,.cells ⟨[.bool false]⟩ 4 (0,0)),(b3,true,.cells ⟨[vA s]⟩ 9 (0,0)),(b2,true,.cells ⟨(k.val A lc B tc).cells.toList⟩ 166 (0,0))]) ?_;refine Tc.TS (A:= []) (ts:= [11]) (xs:=rH s) (fun rest H₄=> k.XY s=rest.all (fun x=> (k.line x).isNone)/\nG s sb H₄/\H₁.le H₄) (fun j H₄=> j=.ret/\k.XY s=false/\H₁.le H₄) rfl rfl rfl rfl qI (fun _ _=> nG.le _ _) (fun _ _ ⟨_,h,_⟩=> h) rfl (fun _ _=> rfl)
   ⟨rfl,ZB,View.le_refl _⟩ ?_ ?_ ?_
 ·rintro r x rest _ l tmps asg bdy H₄ _ hx ⟨rfl,q2,q3,q4⟩ Q St1 cc1 cs1 eK q q';have zN:=fun(H':View) (h':H₄.le H')=> tP M H' k A lc B tc (hk.rows.le (View.le_trans XC (View.le_trans q4 h'))) hn.nl x;rw[List.all_cons] at q2;cases hlx:k.line x with
  | none=>
   rw[hlx] at zN q2;have e2:wB none= -1:=rfl;rw[e2] at zN;refine U3 ?_;refine Tc.beginRound (i:=0) rfl rfl rfl ?_;refine U5 ?_;refine .cl (fun H hs=> zN H hs.base) ?_;refine U5 ?_;refine Tc.FA eK (i:=0) rfl (.inl ⟨rfl,rfl⟩) (fun H' hs=> q H' H₄ _ hs ⟨rfl,q2,q3,q4⟩)
  | some j=>
   rw[hlx] at zN q2;have e2:wB (some j)=(j:Nat):=rfl;rw[e2] at zN;refine U3 ?_;refine Tc.beginRound (i:=0) rfl rfl rfl ?_;refine U5 ?_;refine .cl (fun H hs=> zN H hs.base) ?_;refine U7 ?_;refine Tc.FA eK (i:=0) rfl (.inr (.inl ⟨_,rfl,rfl⟩)) (fun H' hs=> q' H' H₄ _ _ hs ⟨rfl,rfl,q2,q4⟩)
 ·rintro r H₄ ⟨q2,q3,q4⟩;have eX:=View.le_trans XC q4;have q5:k.XY s=true:=q2;refine Tc.marked (L:= [(b4,true,.cells ⟨[.bool false]⟩ 4 (0,0)),(b3,true,.cells ⟨[vA s]⟩ 9 (0,0)),(b2,true,.cells ⟨(k.val A lc B tc).cells.toList⟩ 166 (0,0))]) (rs:= []) ?_;refine YD ?_;refine Tc.db (Tc.xX (σ:= { y:View×Nat×List Nat//H.le y.1/\y.2.1<=k.nl/\∀i,i<y.2.1->k.XS s i=true })
   (fun y=> (y.1.1,[(2,.pointer (some ⟨b2,0,none⟩)),(3,.pointer (some ⟨b3,0,none⟩)),(4,.pointer (some ⟨b4,0,none⟩)),(18,.slice A k.nl lc),(19,.int .i64 (k.nl:Nat)),(20,.int .i64 (y.1.2.1:Nat))],[(b4,true,.cells ⟨[.bool false]⟩ 4 (0,0)),(b3,true,.cells ⟨[vA s]⟩ 9 (0,0)),(b2,true,.cells ⟨(k.val A lc B tc).cells.toList⟩ 166 (0,0))]++Mk y.1.2.2,marks y.1.2.2)) (fun y=> k.nl-y.1.2.1) ?_ ⟨(H₄,0,[r]),eX,Nat.zero_le _,fun i hi=> absurd hi (Nat.not_lt_zero _)⟩)
  rintro⟨⟨H₅,i,rs⟩,g1,g2,g3⟩ ih;simp only at g1 g2 g3;show Tc M St _ _ H₅ _ [(2,.pointer (some ⟨b2,0,none⟩)),(3,.pointer (some ⟨b3,0,none⟩)),(4,.pointer (some ⟨b4,0,none⟩)),(18,.slice A k.nl lc),(19,.int .i64 (k.nl:Nat)),(20,.int .i64 (i:Nat))] ([(b4,true,.cells ⟨[.bool false]⟩ 4 (0,0)),(b3,true,.cells ⟨[vA s]⟩ 9 (0,0)),(b2,true,.cells ⟨(k.val A lc B tc).cells.toList⟩ 166 (0,0))]++Mk rs) (marks rs) _;by_cases c1:i=k.nl
  ·have e:k.safe s=true:=by
    unfold Bk.safe;rw[q5,(JD k.nl).2 (by rw[<-c1];exact g3)];rfl
   subst c1;rw[e] at hK;refine YD ?_;refine Tc.Z6 (E:=en) (L:= [(b4,true,.cells ⟨[.bool true]⟩ 4 (0,0)),(b3,true,.cells ⟨[vA s]⟩ 9 (0,0)),(b2,true,.cells ⟨(k.val A lc B tc).cells.toList⟩ 166 (0,0))]) (rs:=rs) hK func138 results138 (vs:= [_]) (by refine⟨⟨0,_,_,_,_,_,_,_,rfl,rfl,rfl,rfl⟩,?_⟩;exact trivial) ?_;exact fun H' hs=> ⟨View.le_trans g1 hs.base,rfl⟩
  ·have c2:i<k.nl:=by omega
   obtain⟨YW,hl1,FU⟩:=Bk.kP ha c2;have sU:=hk.rows;obtain⟨_,h0|⟨ab,ao,fa,gs,gt,gz,rfl,pI,E5⟩⟩:=sU
   ·omega
   obtain⟨F,fc,f1,_,_⟩:=E5 i c2;have aGW:=g1 _ _ pI;refine ZF ?_;refine .al fun b7=> ?_;refine U6 ?_;refine To.sB rfl rfl rfl rfl rfl rfl dE (CB.h (ZS M H₅ (k.num i))) (fun v H₆ hv=> ?_);obtain⟨HU,sb2,rfl,wU⟩:=hv;refine U ?_;have aGa:=fun(H':View) (hc:nG (k.num i) sb2 H')=> SP M H' (k.num i) YW oM sb2 hc;refine U ?_;refine Tc.db (R':= [(2,.pointer (some ⟨b2,0,none⟩)),(3,.pointer (some ⟨b3,0,none⟩)),(4,.pointer (some ⟨b4,0,none⟩)),(18,.slice (some ⟨ab,ao,none⟩) k.nl lc),(19,.int .i64 (k.nl:Nat)),(20,.int .i64 (i:Nat)),(26,EV sb2)]) (L':= [(b4,true,.cells ⟨[.bool false]⟩ 4 (0,0)),(b3,true,.cells ⟨[vA s]⟩ 9 (0,0)),(b2,true,.cells ⟨(k.val (some ⟨ab,ao,none⟩) lc B tc).cells.toList⟩ 166 (0,0))]++Mk rs) ?_;refine Tc.TS (A:= []) (ts:= [27]) (xs:=rH (k.num i)) (fun rest H₄=> k.XS s i=rest.all (fun x=> !AB x s)/\nG (k.num i) sb2 H₄/\H₆.le H₄) (fun j H₄=> j=.ret/\k.XS s i=false/\H₆.le H₄) rfl rfl rfl rfl aGa (fun _ _=> nG.le _ _) (fun _ _ ⟨_,h,_⟩=> h) rfl (fun _ _=> rfl)
     ⟨rfl,wU,View.le_refl _⟩ ?_ ?_ ?_
   ·rintro r2 x rest _ l tmps asg bdy H₇ _ hx ⟨rfl,p2,p3,p4⟩ Q St1 cc1 cs1 eK q q';rw[List.all_cons] at p2;cases hbx:AB x s with
    | true=>
     rw[hbx] at p2;refine U3 ?_;refine Tc.beginRound (i:=0) rfl rfl rfl ?_;refine U5 ?_;refine .cl (fun H hs=> ZD M H x s true hbx) ?_;refine U6 ?_;refine Tc.FA eK (i:=0) rfl (.inr (.inl ⟨_,rfl,rfl⟩)) (fun H' hs=> q' H' H₇ _ _ hs ⟨rfl,rfl,p2,p4⟩)
    | false=>
     rw[hbx] at p2;refine U3 ?_;refine Tc.beginRound (i:=0) rfl rfl rfl ?_;refine U5 ?_;refine .cl (fun H hs=> ZD M H x s false hbx) ?_;refine U4 ?_;refine Tc.FA eK (i:=0) rfl (.inl ⟨rfl,rfl⟩) (fun H' hs=> q H' H₇ _ hs ⟨rfl,p2,p3,p4⟩)
   ·rintro r2 H₇ ⟨p2,p3,p4⟩;refine Tc.marked (L:= [(b4,true,.cells ⟨[.bool false]⟩ 4 (0,0)),(b3,true,.cells ⟨[vA s]⟩ 9 (0,0)),(b2,true,.cells ⟨(k.val (some ⟨ab,ao,none⟩) lc B tc).cells.toList⟩ 166 (0,0))]) (rs:=rs) ?_;refine U6 ?_;have pE:=ih ⟨(H₇,i+1,r2::rs),View.le_trans g1 (View.le_trans HU p4),c2,fun m hm=> by
     by_cases e:m=i
     ·subst e;exact p2
     ·exact g3 m (by simp only at hm;omega)⟩ (by simp only;omega)
    exact Tc.db pE
   ·rintro r2 j H₇ ⟨rfl,p2,p4⟩;have e:k.safe s=false:=by
     unfold Bk.safe;rw[sG c2 p2];simp
    rw[e] at hK;refine Tc.marked (L:= [(b4,true,.cells ⟨[.bool false]⟩ 4 (0,0)),(b3,true,.cells ⟨[vA s]⟩ 9 (0,0)),(b2,true,.cells ⟨(k.val (some ⟨ab,ao,none⟩) lc B tc).cells.toList⟩ 166 (0,0))]) (rs:=rs) ?_;refine Tc.Z6 (E:=en) (L:= [(b4,true,.cells ⟨[.bool false]⟩ 4 (0,0)),(b3,true,.cells ⟨[vA s]⟩ 9 (0,0)),(b2,true,.cells ⟨(k.val (some ⟨ab,ao,none⟩) lc B tc).cells.toList⟩ 166 (0,0))]) (rs:=r2::rs) hK func138 results138 (vs:= [_]) (by refine⟨⟨0,_,_,_,_,_,_,_,rfl,rfl,rfl,rfl⟩,?_⟩;exact trivial) ?_;exact fun H' hs=> ⟨View.le_trans g1 (View.le_trans HU (View.le_trans p4 hs.base)),rfl⟩
 ·rintro r j H₄ ⟨rfl,q2,q4⟩;have e:k.safe s=false:=by
   unfold Bk.safe;rw[q2];rfl
  rw[e] at hK;refine Tc.gO (E:=en) (i:=0) hK func138 results138 (vs:= [_]) rfl (by refine⟨⟨1,_,_,_,_,_,_,_,rfl,rfl,rfl,rfl⟩,?_⟩;exact trivial) ?_;exact fun H' hs=> ⟨View.le_trans XC (View.le_trans q4 hs.base),rfl⟩
def Bk.tI(k:Bk)(s:List UInt8):Value:=
 if k.VA≠0 then .tuple ⟨[.bool false,.int .i64 k.VA]⟩ else if isNum s=false then .tuple ⟨[.bool false,.int .i64 3]⟩ else if k.clash s=true then .tuple ⟨[.bool false,.int .i64 10]⟩ else .tuple ⟨[.bool (k.safe s),.int .i64 0]⟩
theorem P2(k:Bk)(A:Option Addr)(lc:Nat)(B:Option Addr)(tc:Nat)(hk:GD H k A lc B tc)(hn:k.small)(hG:HC H)(s:List UInt8)(IY:s.length<=1000):
  aA M 56 #[k.val A lc B tc,vA s] H (fun v H'=> H.le H'/\v=k.tI s):=by
 by_cases ha:k.VA=0
 ·have qA:=fun(H':View) (h':H.le H')=> FC M H' k A lc B tc (hk.le h') hn (EA hG h') ha;cases h1:isNum s with
  | false=>
   have ev:k.tI s=.tuple ⟨[.bool false,.int .i64 3]⟩:=by
    unfold Bk.tI;rw[if_neg (by simp[ha]),if_pos h1]
   rw[ev];refine .en func56 ntmps56 fun St c cs hK=> ?_;refine U2 ?_;refine .bo fun b2=> ?_;refine U6 ?_;refine .cl (fun H hs=> qA H hs.base) ?_;refine U3 ?_;refine .al fun b6=> ?_;refine kN ?_;refine .cl (fun H hs=> eG (ZC M H s oM) h1) ?_;refine U9 ?_;refine .rt hK func56 results56 [_,_] ?_;exact okB
  | true=>
   have YW:s.all TE=true:=by
    unfold isNum at h1;simp only[Bool.and_eq_true] at h1;exact h1.2
   cases h2:k.clash s with
   | true=>
    have ev:k.tI s=.tuple ⟨[.bool false,.int .i64 10]⟩:=by
     unfold Bk.tI;rw[if_neg (by simp[ha]),if_neg (by simp[h1]),if_pos h2]
    rw[ev];refine .en func56 ntmps56 fun St c cs hK=> ?_;refine U2 ?_;refine .bo fun b2=> ?_;refine U6 ?_;refine .cl (fun H hs=> qA H hs.base) ?_;refine U3 ?_;refine .al fun b6=> ?_;refine kN ?_;refine .cl (fun H hs=> eG (ZC M H s oM) h1) ?_;refine U9 ?_;refine .cl (fun H hs=> eG (nF M H k A lc (hk.rows.le hs.base) hn.nl s) h2) ?_;refine U8 ?_;refine .rt hK func56 results56 [_,_] ?_;exact okB
   | false=>
    have ev:k.tI s=.tuple ⟨[.bool (k.safe s),.int .i64 0]⟩:=by
     unfold Bk.tI;rw[if_neg (by simp[ha]),if_neg (by simp[h1]),if_neg (by simp[h2])]
    rw[ev];refine .en func56 ntmps56 fun St c cs hK=> ?_;refine U2 ?_;refine .bo fun b2=> ?_;refine U6 ?_;refine .cl (fun H hs=> qA H hs.base) ?_;refine U3 ?_;refine .al fun b6=> ?_;refine kN ?_;refine .cl (fun H hs=> eG (ZC M H s oM) h1) ?_;refine U9 ?_;refine .cl (fun H hs=> eG (nF M H k A lc (hk.rows.le hs.base) hn.nl s) h2) ?_;refine U9 ?_;refine .cl (fun H hs=> l7 M H k A lc B tc (hk.le hs.base) hn ha s YW IY) ?_;refine U3 ?_;refine .rt hK func56 results56 [_,_] ?_;exact okB
 ·have ev:k.tI s=.tuple ⟨[.bool false,.int .i64 k.VA]⟩:=if_pos ha;rw[ev];refine .en func56 ntmps56 fun St c cs hK=> ?_;refine U2 ?_;refine .bo fun b2=> ?_;refine U6 ?_;refine .cl (fun H hs=> PK M H k A lc B tc true (hk.le hs.base) hn (EA hG hs.base) ha) ?_;refine U3 ?_;refine .al fun b6=> ?_;refine hY ?_;refine .rt hK func56 results56 [_,_] ?_;exact okB
theorem dM(s:List UInt8)(eR:s.all TE=true)(IY:s.length<=1000):aA M 45 #[vA s] H (fun v H'=> H.le H'/\v=.int .i64 (KB s:Nat)):=by
 have hb:=aK s eR;refine .en func45 ntmps45 fun St c cs hK=> ?_;refine SE ?_;refine .e (Or.US (E:=en) (s:=⟨⟨s⟩⟩) rfl rfl rfl rfl rfl dE (fun it=> ?_));refine U2 ?_;refine Tc.db (Tc.sA (σ:= { p:Nat//p<=s.length }) (fun p=> ([(3,.int .i64 (KB (s.take p.1):Nat)),(7,.pointer (some ⟨it,0,none⟩))],[(it,true,.stringIter ⟨⟨s⟩⟩ p.1)])) (fun p=> s.length-p.1) ?_ ⟨0,Nat.zero_le _⟩);rintro⟨p,hp⟩ ih;show Tc M St _ _ _ _ [(3,.int .i64 (KB (s.take p):Nat)),(7,.pointer (some ⟨it,0,none⟩))] [(it,true,.stringIter ⟨⟨s⟩⟩ p)] _ _;have aHa:KB (s.take p)<=10*p:=by
  have h1:(s.take p).all TE=true:=List.all_eq_true.2 fun x hx=> List.all_eq_true.1 eR x (List.mem_of_mem_take hx);have h2:=aK (s.take p) h1;rw[List.length_take] at h2;omega
 by_cases c1:p=s.length
 ·subst c1;have G8:¬s.length<(ByteArray.mk ⟨s⟩).size:=by show ¬s.length<s.length;omega
  rw[List.take_length];refine U2 ?_;refine .e (Or.NS 0 rfl rfl rfl G8 rfl dE ?_);refine UC ?_;refine .rt hK func45 results45 [_] ?_;exact okB
 ·have c2:p<s.length:=by omega
  obtain⟨x,hx,hdx,XN⟩:=eS s p c2 eR;have QZ:=S6 hdx;have dR:p<(ByteArray.mk ⟨s⟩).size:=c2;have ha:rA .add .i64 (KB (s.take p):Nat) (pn x:Nat)=some (.int .i64 ((KB (s.take (p+1)):Nat):Int)):=by
   rw[LB oM oM,X0 hx];rfl
  refine U2 ?_;refine .e (Or.zP 0 rfl rfl rfl dR XN rfl dE ?_);refine lF ?_;refine .cl (fun H hs=> EP M H x hdx) ?_;refine U4 ?_;exact Tc.db (ih ⟨p+1,oM⟩ (by simp only;omega))
def OL(s:List UInt8):Value:=if isNum s=false then .tuple ⟨[.int .i64 0,.int .i64 3]⟩ else .tuple ⟨[.int .i64 (KB s:Nat),.int .i64 0]⟩
theorem O2(s:List UInt8)(IY:s.length<=1000):aA M 13 #[vA s] H (fun v H'=> H.le H'/\v=OL s):=by
 cases h1:isNum s with
 | false=>
  have ev:OL s=.tuple ⟨[.int .i64 0,.int .i64 3]⟩:=if_pos h1;rw[ev];refine .en func13 ntmps13 fun St c cs hK=> ?_;refine U9 ?_;refine .cl (fun H hs=> eG (ZC M H s oM) h1) ?_;refine U8 ?_;refine .rt hK func13 results13 [_,_] ?_;exact okB
 | true=>
  have YW:s.all TE=true:=by
   unfold isNum at h1;simp only[Bool.and_eq_true] at h1;exact h1.2
  have ev:OL s=.tuple ⟨[.int .i64 (KB s:Nat),.int .i64 0]⟩:=if_neg (by simp[h1]);rw[ev];refine .en func13 ntmps13 fun St c cs hK=> ?_;refine U9 ?_;refine .cl (fun H hs=> eG (ZC M H s oM) h1) ?_;refine U7 ?_;refine .cl (fun H hs=> dM M H s YW IY) ?_;refine U3 ?_;refine .rt hK func13 results13 [_,_] ?_;exact okB
end
def iD(dg:List UInt8):Nat->List UInt8->List (List UInt8)
 | 0,s=> [s]
 | d+1,s=> dg.flatMap fun x=> iD dg d (s++[x])
def sM(dg:List UInt8)(many:Nat):List (List UInt8):=iD dg many []
theorem UR(dg:List UInt8)(d:Nat)(s:List UInt8){p:Nat}{x:UInt8}(h:dg[p]? =some x):(dg.drop p).flatMap (fun x=> iD dg d (s++[x]))=iD dg d (s++[x])++(dg.drop (p+1)).flatMap (fun x=> iD dg d (s++[x])):=by
 obtain⟨hp,rfl⟩:=List.getElem?_eq_some_iff.1 h;rw[List.drop_eq_getElem_cons hp,List.flatMap_cons]
def TT(b1 b2:Nat):Value:=.func (.func 225) #[] #[.pointer (some ⟨b1,0,none⟩),.pointer (some ⟨b2,0,none⟩)]
def l6(b1 b3 b2 b4:Nat):Value:=.func (.func 226) #[] #[.pointer (some ⟨b1,0,none⟩),.pointer (some ⟨b3,0,none⟩),.pointer (some ⟨b2,0,none⟩),.pointer (some ⟨b4,0,none⟩)]
structure jM(many:Nat)(dg:List UInt8)(b1 b2:Nat)(H:View):Prop where
 a:∃f,H b1=some (f,.cells ⟨[.int .i64 (many:Nat)]⟩ 3 (0,0))
 b:∃f,H b2=some (f,.cells ⟨[vA dg]⟩ 9 (0,0))
theorem jM.le {many:Nat}{dg:List UInt8}{b1 b2:Nat}(H H':View)(h:H.le H')(c:jM many dg b1 b2 H):jM many dg b1 b2 H':=⟨c.a.imp fun _ e=> h _ _ e,c.b.imp fun _ e=> h _ _ e⟩
def xP(l b1 b2 b3 b4:Nat):Bl:= [(b4,true,.cells ⟨[l6 b1 b3 b2 b4]⟩ 101 (0,0)),(b3,true,.cells ⟨[.func (.yield l) #[] #[]]⟩ 101 (0,0))]
section
variable(M:Md prog)(H:View)
theorem D3(many:Nat)(dg:List UInt8):aA M 139 #[.int .i64 (many:Nat),vA dg] H (fun v H'=> H.le H'/\∃b1 b2,v=TT b1 b2/\jM many dg b1 b2 H'):=by
 refine .en func139 ntmps139 fun St c cs hK=> ?_;refine U2 ?_;refine .bo fun b2=> ?_;refine .bo fun b3=> ?_;refine U7 ?_;refine .rt hK func139 results139 [_] ?_;exact fun H' hs=> ⟨hs.base,b2,b3,rfl,⟨true,hs.get (i:=1) rfl⟩,⟨true,hs.get (i:=0) rfl⟩⟩
theorem aCq(many:Nat)(dg:List UInt8)(hm:many<=1000)(YW:dg.all TE=true)(ZQ:dg.length<=1000)(l b1 b2 b3 b4:Nat)(xs:List (List UInt8))(J:List (List UInt8)->View->Prop)(D:View->Prop)(ZB:∀rest H',J rest H'->jM many dg b1 b2 H')
  (hy:∀x rest (_:Unit) H' H'',x∈xs->J (x::rest) H'->kA H' [] H''->CB M (.func (.yield l) #[] #[]) [vA x] H'' fun v H3=> (v=.bool true/\∃H₂,kA H₂ [] H3/\J rest H₂)\/(v=.bool false/\D H3)):
  ∀ (d:Nat) (s:List UInt8) (rest:List (List UInt8)) (H₁ Hc:View),s.length+d=many->J (iD dg d s++rest) H₁->(∀x∈iD dg d s,x∈xs)->kA H₁ (xP l b1 b2 b3 b4) Hc-> 
   aA M 226 #[vA s,.pointer (some ⟨b1,0,none⟩),.pointer (some ⟨b3,0,none⟩),.pointer (some ⟨b2,0,none⟩),.pointer (some ⟨b4,0,none⟩)] Hc (fun v H3=> (v=.bool true/\∃H₂,kA H₂ (xP l b1 b2 b3 b4) H3/\J rest H₂)\/(v=.bool false/\∃H₂,H₂.le H3/\D H₂)):=by
 intro d;induction d with
 | zero=>
  intro s rest H₁ Hc hsd hJ jK AS;obtain⟨⟨fa,ha⟩,⟨fb,hb⟩⟩:=ZB _ _ hJ;refine aA.enter (vs:= [vA s,.pointer (some ⟨b1,0,none⟩),.pointer (some ⟨b3,0,none⟩),.pointer (some ⟨b2,0,none⟩),.pointer (some ⟨b4,0,none⟩)]) func226 rfl ntmps226 (Nat.le_of_ble_eq_true rfl) (AS) fun St c cs hK=> ?_;unfold xP;refine BI ?_;refine To.sB rfl rfl rfl rfl rfl rfl dE (hy s rest () H₁ H₁ (jK s (by simp[iD])) hJ (kA.nil H₁)) (fun v H₃ hv=> ?_);rcases hv with ⟨rfl,H4,h8,j3⟩|⟨rfl,hD⟩
  ·refine To.lower h8.base ?_;refine U2 ?_;refine .rt hK func226 results226 [_] ?_;exact fun H' hs=> .inl ⟨rfl,H4,hs,j3⟩
  ·refine U2 ?_;refine .rt hK func226 results226 [_] ?_;exact fun H' hs=> .inr ⟨rfl,H₃,hs.base,hD⟩
 | succ d ihd=>
  intro s rest H₁ Hc hsd hJ jK AS;obtain⟨⟨fa,ha⟩,⟨fb,hb⟩⟩:=ZB _ _ hJ;refine aA.enter (vs:= [vA s,.pointer (some ⟨b1,0,none⟩),.pointer (some ⟨b3,0,none⟩),.pointer (some ⟨b2,0,none⟩),.pointer (some ⟨b4,0,none⟩)]) func226 rfl ntmps226 (Nat.le_of_ble_eq_true rfl) (AS) fun St c cs hK=> ?_;unfold xP;refine hY ?_;refine .e (Or.US (E:=en) (s:=⟨⟨dg⟩⟩) rfl rfl rfl rfl rfl dE (fun it=> ?_));refine U2 ?_;refine Tc.db (Tc.rI (σ:= { x:Nat×View//x.1<=dg.length/\J ((dg.drop x.1).flatMap (fun y=> iD dg d (s++[y]))++rest) x.2 })
   (fun x=> (x.1.2,[(0,vA s),(1,.pointer (some ⟨b1,0,none⟩)),(2,.pointer (some ⟨b3,0,none⟩)),(3,.pointer (some ⟨b2,0,none⟩)),(4,.pointer (some ⟨b4,0,none⟩)),(16,.pointer (some ⟨it,0,none⟩))],[(it,true,.stringIter ⟨⟨dg⟩⟩ x.1.1),(b4,true,.cells ⟨[l6 b1 b3 b2 b4]⟩ 101 (0,0)),(b3,true,.cells ⟨[.func (.yield l) #[] #[]]⟩ 101 (0,0))])) (fun x=> dg.length-x.1.1) ?_ ⟨(0,H₁),Nat.zero_le _,hJ⟩)
  rintro⟨⟨p,H₂⟩,g1,j1⟩ ih;simp only at g1 j1;show Tc M St _ _ H₂ _ [(0,vA s),(1,.pointer (some ⟨b1,0,none⟩)),(2,.pointer (some ⟨b3,0,none⟩)),(3,.pointer (some ⟨b2,0,none⟩)),(4,.pointer (some ⟨b4,0,none⟩)),(16,.pointer (some ⟨it,0,none⟩))] [(it,true,.stringIter ⟨⟨dg⟩⟩ p),(b4,true,.cells ⟨[l6 b1 b3 b2 b4]⟩ 101 (0,0)),(b3,true,.cells ⟨[.func (.yield l) #[] #[]]⟩ 101 (0,0))] _ _;by_cases c1:p=dg.length
  ·subst c1;have G8:¬dg.length<(ByteArray.mk ⟨dg⟩).size:=by show ¬dg.length<dg.length;omega
   rw[List.drop_length] at j1;refine U2 ?_;refine .e (Or.NS 0 rfl rfl rfl G8 rfl dE ?_);refine U9 ?_;refine .rt hK func226 results226 [_] ?_;exact fun H' hs=> .inl ⟨rfl,H₂,hs.less sL,j1⟩
  ·have c2:p<dg.length:=by omega
   obtain⟨x,hx,hdx,XN⟩:=eS dg p c2 YW;have dR:p<(ByteArray.mk ⟨dg⟩).size:=c2;obtain⟨⟨fa,ha⟩,⟨fb,hb⟩⟩:=ZB _ _ j1;rw[UR dg d s hx,List.append_assoc] at j1;have aF8:∀y∈iD dg d (s++[x]),y∈xs:=fun y hyy=> jK y (List.mem_flatMap.2 ⟨x,List.mem_of_getElem? hx,hyy⟩);have e2:(dg.drop ((p:Nat):Int).toNat).take ((((p:Nat):Int)+1).toNat-((p:Nat):Int).toNat)= [x]:=by
    rw[show(((p:Nat):Int)+1).toNat-((p:Nat):Int).toNat=1 by omega,Int.toNat_natCast];obtain⟨hp',rfl⟩:=List.getElem?_eq_some_iff.1 hx;rw[List.drop_eq_getElem_cons hp'];rfl
   refine U2 ?_;refine .e (Or.zP 0 rfl rfl rfl dR XN rfl dE ?_);refine SE ?_;refine Tc.drC [] [8] [] mixed rfl ?_;refine .oo 0 ?_;refine .oo 1 ?_;refine .oo 2 ?_;refine .oo 3 ?_;refine .oo 4 ?_;refine .oo 5 ?_;refine Ta.N8 6 kR rfl rfl dE rfl rfl (xA.take (xA.cI (E:=en) rfl rfl rfl rfl rfl rfl oM oM oM)) ?_;refine Ta.N8 7 kR rfl rfl dE rfl rfl (xA.take (xA.JF rfl rfl rfl (by exact xJ (by simp <;> omega)))) ?_;rw[e2];refine Ta.lift (L₂:= [(it,true,.stringIter ⟨⟨dg⟩⟩ (p+1))]) (L₁:=xP l b1 b2 b3 b4) rfl (fun Hx hx1=> ?_);refine Ta.sB 8 kR rfl kR rfl rfl rfl rfl rfl rfl dE (CB.of (first:= []) (captured:= [_,_,_,_]) aA6 rfl (ihd (s++[x]) _ H₂ Hx (by rw[List.length_append];show s.length+1+d=many;omega) j1 aF8 hx1)) (fun v H₃ hv=> ?_);rcases hv with ⟨rfl,H4,h8,j3⟩|⟨rfl,H4,hl4,hD⟩
   ·refine Ta.expand h8 ?_;unfold xP;refine .ea 9 rfl (Or.SY .nt rfl dE ⟨S3.off kR,?_⟩);refine .dn ?_;refine U3 ?_;exact Tc.db (ih ⟨(p+1,H4),by simp only;omega,j3⟩ (by simp only;omega))
   ·refine .ea 9 rfl (Or.SY .nt rfl dE ⟨S3.off kR,?_⟩);refine .dn ?_;refine U5 ?_;refine .rt hK func226 results226 [_] ?_;exact fun H' hs=> .inr ⟨rfl,H4,View.le_trans hl4 hs.base,hD⟩
theorem gH(many:Nat)(dg:List UInt8)(hm:many<=1000)(YW:dg.all TE=true)(ZQ:dg.length<=1000)(b1 b2:Nat):
  bL M (TT b1 b2) (sM dg many) (fun x (_:Unit)=> [vA x]) (fun _ _=> []) (fun _ _=> []) (jM many dg b1 b2) [] H:=fun l J D ZB h0 hy H₀ AL=> by
 refine CB.of (first:= []) (captured:= [_,_]) aEf rfl ?_;refine aA.enter (vs:= [.func (.yield l) #[] #[],.pointer (some ⟨b1,0,none⟩),.pointer (some ⟨b2,0,none⟩)]) func225 rfl ntmps225 (Nat.le_of_ble_eq_true rfl) (AL) fun St c cs hK=> ?_;refine U2 ?_;refine .bo fun b3=> ?_;refine U3 ?_;refine .al fun b4=> ?_;refine U8 ?_;refine To.lift (L₂:= []) (L₁:=xP l b1 b2 b3 b4) rfl (fun Hx hx=> ?_);refine To.sB rfl rfl rfl rfl rfl rfl dE (CB.of (first:= []) (captured:= [_,_,_,_]) aA6 rfl (aCq M many dg hm YW ZQ l b1 b2 b3 b4 (sM dg many) J D ZB (fun x rest e H' H'' h1 h2 h3=> hy x rest e H' H'' h1 h2 h3) many [] [] H Hx (Nat.zero_add _) (by rw[List.append_nil];exact h0) (fun x hx=> hx) hx)) (fun v H₃ hv=> ?_);refine U ?_;refine .ov hK func225 results225 [] ?_;intro H' hs;rcases hv with ⟨_,H4,h8,j3⟩|⟨_,H4,hl4,hD⟩
 ·exact⟨H4,View.le_trans h8.base hs.base,.inl j3⟩
 ·exact⟨H4,View.le_trans hl4 hs.base,.inr hD⟩
end
theorem EN {dg:List UInt8}:∀(d:Nat) (s x:List UInt8),x∈iD dg d s->x.length=s.length+d/\∀y∈x,y∈s\/y∈dg
 | 0,s,x,h=> by
  have:x=s:=by simpa [iD] using h
  subst this;exact⟨rfl,fun y hy=> .inl hy⟩
 | d + 1,s,x,h=> by
  obtain⟨z,hz,h2⟩:=List.mem_flatMap.1 h;obtain⟨h3,h4⟩:=EN d _ x h2;refine⟨by rw[h3,List.length_append];show s.length+1+d=_;omega,fun y hy=> ?_⟩;rcases h4 y hy with h5|h5
  ·rcases List.mem_append.1 h5 with h6|h6
   ·exact .inl h6
   ·have:y=z:=by simpa using h6
    subst this;exact .inr hz
  ·exact .inr h5
theorem XU {dg:List UInt8}{n:Nat}{x:List UInt8}(h:x∈sM dg n):x.length=n/\∀y∈x,y∈dg:=by
 obtain⟨h1,h2⟩:=EN n [] x h;exact⟨by simpa using h1,fun y hy=> (h2 y hy).resolve_left (by simp)⟩
theorem hU:nL.all TE=true:=by decide +kernel
def Bk.BF(k:Bk)(sf:Bool)(x:List UInt8):Bool:=!k.clash x&&(!sf||k.safe x)
def Bk.spare(k:Bk)(n:Nat)(sf:Bool):Option (List UInt8):=(sM nL n).find? (k.BF sf)
def GG(x:List UInt8)(t:Bool)(a:Int):Value:=.tuple ⟨[vA x,.bool t,.int .i64 a]⟩
def Bk.wJ(k:Bk)(z:Int)(sf:Bool):Value:=
 if k.VA≠0 then GG [] false k.VA else if ¬(1<=z/\z<=3) then GG [] false 1 else match k.spare z.toNat sf with
  | some x=> GG x true 0
  | none=> GG [] false 0
section
variable(M:Md prog)(H:View)
theorem l9(k:Bk)(A:Option Addr)(lc:Nat)(B:Option Addr)(tc:Nat)(hk:GD H k A lc B tc)(hn:k.small)(hG:HC H)(z:Int)(sf:Bool):
  aA M 57 #[k.val A lc B tc,.int .i64 z,.bool sf] H (fun v H'=> H.le H'/\v=k.wJ z sf):=by
 by_cases ha:k.VA=0
 ·have qA:=fun(H':View) (h':H.le H')=> FC M H' k A lc B tc (hk.le h') hn (EA hG h') ha;by_cases c1:1<=z/\z<=3
  ·obtain ⟨n,rfl⟩:∃n:Nat,z=n:=⟨z.toNat,oM⟩
   have ev:k.wJ (n:Nat) sf=match k.spare n sf with
     | some x=> GG x true 0
     | none=> GG [] false 0:=by
    unfold Bk.wJ;rw[if_neg (by simp[ha]),if_neg (fun h=> h c1)];rfl
   have hbt:=fun(H':View)=> CA M H' ((n:Nat):Int) 1 3 true (decide_eq_true c1);refine .en func57 ntmps57 fun St c cs hK=> ?_;refine U2 ?_;refine .bo fun b3=> ?_;refine .bo fun b5=> ?_;refine .al fun b6=> ?_;refine .al fun b7=> ?_;refine .al fun b8=> ?_;refine U4 ?_;refine .cl (fun H hs=> qA H hs.base) ?_;refine U3 ?_;refine .al fun b9=> ?_;refine kN ?_;refine .cl (fun H hs=> hbt H) ?_;refine UC ?_;refine To.sB rfl rfl rfl rfl rfl rfl dE (CB.h (D3 M H n nL)) (fun v H₁ hv=> ?_);obtain⟨XC,a1,a2,rfl,ZB⟩:=hv;refine U ?_;have qI:=fun(H':View) (_:jM n nL a1 a2 H')=> gH M H' n nL oM hU dE a1 a2;refine U ?_;refine Tc.db (R':= [(3,.pointer (some ⟨b3,0,none⟩)),(5,.pointer (some ⟨b5,0,none⟩)),(6,.pointer (some ⟨b6,0,none⟩)),(7,.pointer (some ⟨b7,0,none⟩)),(8,.pointer (some ⟨b8,0,none⟩)),(9,.pointer (some ⟨b9,0,none⟩)),(25,TT a1 a2)])
    (L':= [(b9,true,.cells ⟨(k.val A lc B tc).cells.toList⟩ 166 (0,0)),(b8,true,.cells ⟨[.int .i64 0]⟩ 25 (0,0)),(b7,true,.cells ⟨[.bool false]⟩ 4 (0,0)),(b6,true,.cells ⟨[vA []]⟩ 9 (0,0)),(b5,true,.cells ⟨[.bool sf]⟩ 4 (0,0)),(b3,true,.cells ⟨(k.val A lc B tc).cells.toList⟩ 45 (0,0))]) ?_
   refine Tc.aI (A:= []) (ts:= [26]) (xs:=sM nL n) (fun rest H₄ L₄=> L₄= [(b9,true,.cells ⟨(k.val A lc B tc).cells.toList⟩ 166 (0,0)),(b8,true,.cells ⟨[.int .i64 0]⟩ 25 (0,0)),(b7,true,.cells ⟨[.bool false]⟩ 4 (0,0)),(b6,true,.cells ⟨[vA []]⟩ 9 (0,0)),(b5,true,.cells ⟨[.bool sf]⟩ 4 (0,0)),(b3,true,.cells ⟨(k.val A lc B tc).cells.toList⟩ 45 (0,0))]
     /\k.spare n sf=rest.find? (k.BF sf)/\jM n nL a1 a2 H₄/\H₁.le H₄)
     (fun j H₄ L₄=> ∃x,L₄= [(b9,true,.cells ⟨(k.val A lc B tc).cells.toList⟩ 166 (0,0)),(b8,true,.cells ⟨[.int .i64 0]⟩ 25 (0,0)),(b7,true,.cells ⟨[.bool true]⟩ 4 (0,0)),(b6,true,.cells ⟨[vA x]⟩ 9 (0,0)),(b5,true,.cells ⟨[.bool sf]⟩ 4 (0,0)),(b3,true,.cells ⟨(k.val A lc B tc).cells.toList⟩ 45 (0,0))]/\j=.ret/\k.spare n sf=some x/\H₁.le H₄)
     rfl rfl rfl rfl qI (fun _ _=> jM.le _ _) (fun _ _ _ ⟨_,_,h,_⟩=> h) rfl (fun _ _=> rfl) ⟨rfl,rfl,ZB,View.le_refl _⟩ ?_ ?_ ?_
   ·rintro r x rest _ l tmps asg bdy H₄ _ hx ⟨rfl,q2,q3,q4⟩ Q St1 cc1 cs1 eK q q';have eX:=View.le_trans XC q4;obtain⟨hxl,hxd⟩:=XU hx;have aEQ:x.all TE=true:=List.all_eq_true.2 fun y hy=> List.all_eq_true.1 hU y (hxd y hy);have yB:=fun(H':View) (h':H₄.le H')=> nF M H' k A lc (hk.rows.le (View.le_trans eX h')) hn.nl x;have hsf:=fun(H':View) (h':H₄.le H')=> l7 M H' k A lc B tc (hk.le (View.le_trans eX h')) hn ha x aEQ oM;rw[List.find?_cons] at q2;cases h1:k.clash x with
    | true=>
     have e1:k.BF sf x=false:=by unfold Bk.BF;rw[h1];rfl
     rw[e1] at q2;rw[h1] at yB;refine U3 ?_;refine Tc.beginRound (i:=0) rfl rfl rfl ?_;refine U4 ?_;refine .x (.ld 7) ?_;refine U ?_;refine .cl (fun H hs=> yB H hs.base) ?_;refine U5 ?_;refine To.qD rfl dE rfl ?_;refine To.qD rfl dE rfl ?_;refine To.qD rfl dE rfl ?_;refine U6 ?_;refine Tc.FA eK (i:=0) rfl (.inl ⟨rfl,rfl⟩) (fun H' hs=> q H' H₄ _ hs ⟨rfl,q2,q3,q4⟩)
    | false=>
     rw[h1] at yB;cases sf with
     | false=>
      have e1:k.BF false x=true:=by unfold Bk.BF;rw[h1];rfl
      rw[e1] at q2;refine U3 ?_;refine Tc.beginRound (i:=0) rfl rfl rfl ?_;refine U4 ?_;refine .x (.ld 7) ?_;refine U ?_;refine .cl (fun H hs=> yB H hs.base) ?_;refine PR ?_;refine Tc.FA eK (i:=0) rfl (.inr (.inl ⟨_,rfl,rfl⟩)) (fun H' hs=> q' H' H₄ _ _ hs ⟨x,rfl,rfl,q2,q4⟩)
     | true=>
      cases h2:k.safe x with
      | true=>
       have e1:k.BF true x=true:=by unfold Bk.BF;rw[h1,h2];rfl
       rw[e1] at q2;rw[h2] at hsf;refine U3 ?_;refine Tc.beginRound (i:=0) rfl rfl rfl ?_;refine U4 ?_;refine .x (.ld 7) ?_;refine U ?_;refine .cl (fun H hs=> yB H hs.base) ?_;refine U7 ?_;refine .cl (fun H hs=> hsf H hs.base) ?_;refine YD ?_;refine Tc.FA eK (i:=0) rfl (.inr (.inl ⟨_,rfl,rfl⟩)) (fun H' hs=> q' H' H₄ _ _ hs ⟨x,rfl,rfl,q2,q4⟩)
      | false=>
       have e1:k.BF true x=false:=by unfold Bk.BF;rw[h1,h2];rfl
       rw[e1] at q2;rw[h2] at hsf;refine U3 ?_;refine Tc.beginRound (i:=0) rfl rfl rfl ?_;refine U4 ?_;refine .x (.ld 7) ?_;refine U ?_;refine .cl (fun H hs=> yB H hs.base) ?_;refine U7 ?_;refine .cl (fun H hs=> hsf H hs.base) ?_;refine U6 ?_;refine Tc.FA eK (i:=0) rfl (.inl ⟨rfl,rfl⟩) (fun H' hs=> q H' H₄ _ hs ⟨rfl,q2,q3,q4⟩)
   ·rintro r H₄ _ ⟨rfl,q2,q3,q4⟩;have e1:k.spare n sf=none:=q2;rw[ev,e1] at hK;refine U7 ?_;refine Tc.gO (E:=en) (i:=0) hK func57 results57 (vs:= [_,_,_]) rfl (by refine⟨⟨4,_,_,_,_,_,_,_,rfl,rfl,rfl,rfl⟩,?_⟩;refine⟨⟨3,_,_,_,_,_,_,_,rfl,rfl,rfl,rfl⟩,?_⟩;refine⟨⟨2,_,_,_,_,_,_,_,rfl,rfl,rfl,rfl⟩,?_⟩;exact trivial) ?_;exact fun H' hs=> ⟨View.le_trans XC (View.le_trans q4 hs.base),rfl⟩
   ·rintro r j H₄ _ ⟨x,rfl,rfl,q2,q4⟩;rw[ev,q2] at hK;refine Tc.gO (E:=en) (i:=0) hK func57 results57 (vs:= [_,_,_]) rfl (by refine⟨⟨4,_,_,_,_,_,_,_,rfl,rfl,rfl,rfl⟩,?_⟩;refine⟨⟨3,_,_,_,_,_,_,_,rfl,rfl,rfl,rfl⟩,?_⟩;refine⟨⟨2,_,_,_,_,_,_,_,rfl,rfl,rfl,rfl⟩,?_⟩;exact trivial) ?_;exact fun H' hs=> ⟨View.le_trans XC (View.le_trans q4 hs.base),rfl⟩
  ·have ev:k.wJ z sf=GG [] false 1:=by
    unfold Bk.wJ;rw[if_neg (by simp[ha]),if_pos c1]
   have hbt:=fun(H':View)=> CA M H' z 1 3 false (decide_eq_false c1);rw[ev];refine .en func57 ntmps57 fun St c cs hK=> ?_;refine U2 ?_;refine .bo fun b3=> ?_;refine .bo fun b5=> ?_;refine .al fun b6=> ?_;refine .al fun b7=> ?_;refine .al fun b8=> ?_;refine U4 ?_;refine .cl (fun H hs=> qA H hs.base) ?_;refine U3 ?_;refine .al fun b9=> ?_;refine kN ?_;refine .cl (fun H hs=> hbt H) ?_;refine UC ?_;refine .rt hK func57 results57 [_,_,_] ?_;exact okB
 ·have ev:k.wJ z sf=GG [] false k.VA:=if_pos ha;rw[ev];refine .en func57 ntmps57 fun St c cs hK=> ?_;refine U2 ?_;refine .bo fun b3=> ?_;refine .bo fun b5=> ?_;refine .al fun b6=> ?_;refine .al fun b7=> ?_;refine .al fun b8=> ?_;refine U4 ?_;refine .cl (fun H hs=> PK M H k A lc B tc true (hk.le hs.base) hn (EA hG hs.base) ha) ?_;refine U3 ?_;refine .al fun b9=> ?_;refine ZF ?_;refine Tc.drE [3] [1,2,3] [2,3] mixed rfl ?_;refine .nn 0 ?_;refine .ea 1 rfl (.st 3 (zz:=⟨S2.mk sL (.inr sL),?_⟩));refine .ea 2 rfl (.st 2 (zz:=⟨S2.mk sL (.inr sL),?_⟩));refine .e 3 1 ?_;refine .dn ?_;refine .rt hK func57 results57 [_,_,_] ?_;exact okB
end
end Go.Proofs.YtldmfjcgjdchcaaGreatDoor
namespace Go.RL
open Go.Conc
section
variable {P:Program}{E:Env P}{M:Md P}{n:Nat}{H₀:View}{R:Rg}{L:Bl}{o:Oper}{K:Rg->Bl->Prop}{d:Nat}
theorem Gl.GO {e:TypeId}{sz:Nat}(g:Gl e sz):(g.bl.map (·.1)).Nodup:=by
 unfold Gl.bl;split <;> simp
theorem Or.jY(k:Nat){cl:Go.Call}{x y:Operand}{t xt e:TypeId}{sz m:Nat}{yv:Value}{new:List Value}{g:Gl e sz}{r re rx:OA}{ex:TypeId}(qA:o.op=.call cl)(yB:cl.callee=.builtin .append)(YK:cl.argTypes=#[t,xt])(vL:cl.args=#[x,y])
  (hx:RA R x=some g.val) (hy:RA R y=some yv) (ht:E.ty t=some r) (yC:r.ds=.slice e) (EE:E.ty e=some re) (IE:re.size=sz) (hzs:Nat.beq re.zero.cells.toList.length sz=true) (hxt:E.ty xt=some rx) (hex:rx.ds=.slice ex) (hby:Nat.ble re.bytes 1000=true)
  (hL:L.drop k=g.bl) (UH:∀H,kA H₀ L H->UA H sz yv m new) (hs:new.all single=true) (hm:g.n+m<=1000000000) (hd:o.dst=some d) (hn:d<n)
  (E8:∀g':Gl e sz,g'.n=g.n+m->g'.l=g.l++new->g'.blk=g.blk->g'.cap=g.cap->K ((d,g'.val)::R) (L.take k++g'.bl))
  (EU:∀g':Gl e sz,g'.n=g.n+m->g'.l=g.l++new->K ((d,g'.val)::R) (L++g'.bl)):Or M n H₀ R L o K:=
 .val hd hn fun H tmps eC hr=> by
  have hLe:L=L.take k++g.bl:=by rw[<-hL,List.take_append_drop]
  have RZ:=eC;unfold execOp;rw[qA];simp only[resolve,yB,YK,vL];have hm':Array.map (IC tmps) #[x,y]=#[g.val,yv]:=by simp[hr.ev hx,hr.ev hy]
  rw[hm'];rw[hLe] at eC;refine bA (Builtin.append_ #[t,xt] o.type #[g.val,yv]) _ ?_;refine PN ht yC EE IE (Nat.eq_of_beq_eq_true hzs) ⟨rx,ex,hxt,hex⟩ (Nat.le_of_ble_eq_true hby) hm (fun z hz=> eC.at_ z (by simp[hz])) (UH H RZ) hs fun g' H' h1 h2 h3 h4 h5=> ?_;cases hb:g'.blk with
  | none=>
   have QJ:g'.bl= []:=by unfold Gl.bl;rw[hb]
   have hHH:H'=H:=funext fun c=> h4 c (fun b CI=> by rw[hb] at CI;cases CI);subst hHH;refine⟨_,rfl,L,RZ,?_⟩;have:=EU g' h1 h2
   rwa [QJ,List.append_nil] at this
  | some b=>
   rcases h3 b hb with ⟨h6,h7⟩|h6
   ·exact⟨_,rfl,_,eC.grown (fun b CI=> (h3 b CI).imp And.left id) h4 h5,E8 g' h1 h2 (hb.trans h6.symm) h7⟩
   ·have QJ:g'.bl= [(b,true,.cells ⟨g'.l++g'.HB⟩ e (0,0))]:=by unfold Gl.bl;rw[hb]
    have hle:H.le H':=fun c z hc=> by
     rw[h4 c (fun b' uS=> by
      rw[hb] at uS;cases uS
      rintro rfl;rw[h6] at hc;cases hc)]
     exact hc
    refine⟨_,rfl,_,RZ.more hle g'.GO (fun y hy=> ⟨h5 y hy,?_⟩),EU g' h1 h2⟩;rw[QJ,List.mem_singleton] at hy;subst hy;exact h6
end
end Go.RL
namespace Go.Proofs.YtldmfjcgjdchcaaGreatDoor
open Go.RL Go.Proofs.Tryz
set_option maxRecDepth 10000
set_option maxHeartbeats 16000000
def HE(H:View)(F:Option Addr)(n:Nat)(x:Nat->List UInt8):Prop:=
 n=0\/∃b o f gs gt gz,F=some ⟨b,o,none⟩/\H b=some (f,.cells ⟨gs⟩ gt gz)/\∀j:Nat,j<n->BC false 1 gs (o+(j:Int).toNat*1)=some (vA (x j))
theorem HE.le {H H':View}{F:Option Addr}{n:Nat}{x:Nat->List UInt8}(h:HE H F n x)(k:H.le H'):HE H' F n x:=
 h.imp id fun⟨b,o,f,gs,gt,gz,h1,h2,h3⟩=> ⟨b,o,f,gs,gt,gz,h1,k _ _ h2,h3⟩
def gF(x:Int):Bool:=decide (0<=x/\x<=99)
section
variable(M:Md prog)(H:View)
theorem Y1(F:Option Addr)(n fc:Nat)(x:Nat->Int)(hF:GB H F n x)(hn:n<=1000000)(fv:Value)(p:Nat->Bool)(hp:∀j,j<n->∀H',H.le H'->CB M fv [.int .i64 (x j)] H' fun v H''=> H'.le H''/\v=.bool (p j)):
  aA M 187 #[.slice F n fc,fv] H (fun v H'=> H.le H'/\v=.int .i64 (wB (pA p n))):=by
 refine .en func187 ntmps187 fun St c cs hK=> ?_;refine SE ?_;refine Tc.db (Tc.sA (σ:= { j:Nat//j<=n/\pA p j=none }) (fun j=> ([(0,.slice F n fc),(1,fv),(7,.int .i64 (n:Nat)),(8,.int .i64 (j.1:Nat))],[])) (fun j=> n-j.1) ?_ ⟨0,Nat.zero_le _,rfl⟩);rintro⟨j,hj,YC⟩ ih;show Tc M St _ _ _ _ [(0,.slice F n fc),(1,fv),(7,.int .i64 (n:Nat)),(8,.int .i64 (j:Nat))] [] _ _;by_cases c1:j=n
 ·subst c1;rw[YC] at hK;refine YD ?_;refine .rt hK func187 results187 [_] ?_;exact okB
 ·have c2:j<n:=by omega
  obtain h0|⟨ab,ao,f,gs,gt,gz,rfl,hb,hl⟩:=hF
  ·omega
  have f1:=hl j c2;have rO:=hp j c2;cases WG:p j with
  | true=>
   rw[WG] at rO;have e:pA p n=some j:=nB (j:=j+1) (by simp[pA,YC,WG]) _ oM;rw[e] at hK;refine lO ?_;refine .c rfl rfl rfl rfl (fun H hs=> rO H hs.base) ?_;refine U7 ?_;refine .rt hK func187 results187 [_] ?_;exact okB
  | false=>
   rw[WG] at rO;refine lO ?_;refine .c rfl rfl rfl rfl (fun H hs=> rO H hs.base) ?_;refine U8 ?_;exact Tc.db (ih ⟨j+1,oM,by simp[pA,YC,WG]⟩ (by simp only;omega))
theorem DT(F:Option Addr)(n fc:Nat)(x:Nat->Int)(hF:GB H F n x)(hn:n<=1000000)(fv:Value)(p:Nat->Bool)(hp:∀j,j<n->∀H',H.le H'->CB M fv [.int .i64 (x j)] H' fun v H''=> H'.le H''/\v=.bool (p j)):
  aA M 112 #[.slice F n fc,fv] H (fun v H'=> H.le H'/\v=.bool (pA p n).isSome):=by
 have hi:=fun(H':View) (h':H.le H')=> Y1 M H' F n fc x (hF.le h') hn fv p (fun j hj H'' h''=> hp j hj H'' (View.le_trans h' h''));cases hq:pA p n with
 | none=>
  rw[hq] at hi;have e:wB none= -1:=rfl;rw[e] at hi;refine .en func112 ntmps112 fun St c cs hK=> ?_;refine U8 ?_;refine .cl (fun H hs=> hi H hs.base) ?_;refine U3 ?_;refine .rt hK func112 results112 [_] ?_;exact okB
 | some j=>
  rw[hq] at hi;have e:wB (some j)=(j:Nat):=rfl;rw[e] at hi;refine .en func112 ntmps112 fun St c cs hK=> ?_;refine U8 ?_;refine .cl (fun H hs=> hi H hs.base) ?_;refine U3 ?_;refine .rt hK func112 results112 [_] ?_;exact okB
theorem C2(F:Option Addr)(n fc:Nat)(x:Nat->List UInt8)(hF:HE H F n x)(hn:n<=1000000)(fv:Value)(p:Nat->Bool)(hp:∀j,j<n->∀H',H.le H'->CB M fv [vA (x j)] H' fun v H''=> H'.le H''/\v=.bool (p j)):
  aA M 227 #[.slice F n fc,fv] H (fun v H'=> H.le H'/\v=.int .i64 (wB (pA p n))):=by
 refine .en func227 ntmps227 fun St c cs hK=> ?_;refine SE ?_;refine Tc.db (Tc.sA (σ:= { j:Nat//j<=n/\pA p j=none }) (fun j=> ([(0,.slice F n fc),(1,fv),(7,.int .i64 (n:Nat)),(8,.int .i64 (j.1:Nat))],[])) (fun j=> n-j.1) ?_ ⟨0,Nat.zero_le _,rfl⟩);rintro⟨j,hj,YC⟩ ih;show Tc M St _ _ _ _ [(0,.slice F n fc),(1,fv),(7,.int .i64 (n:Nat)),(8,.int .i64 (j:Nat))] [] _ _;by_cases c1:j=n
 ·subst c1;rw[YC] at hK;refine YD ?_;refine .rt hK func227 results227 [_] ?_;exact okB
 ·have c2:j<n:=by omega
  obtain h0|⟨ab,ao,f,gs,gt,gz,rfl,hb,hl⟩:=hF
  ·omega
  have f1:=hl j c2;have rO:=hp j c2;cases WG:p j with
  | true=>
   rw[WG] at rO;have e:pA p n=some j:=nB (j:=j+1) (by simp[pA,YC,WG]) _ oM;rw[e] at hK;refine lO ?_;refine .c rfl rfl rfl rfl (fun H hs=> rO H hs.base) ?_;refine U7 ?_;refine .rt hK func227 results227 [_] ?_;exact okB
  | false=>
   rw[WG] at rO;refine lO ?_;refine .c rfl rfl rfl rfl (fun H hs=> rO H hs.base) ?_;refine U8 ?_;exact Tc.db (ih ⟨j+1,oM,by simp[pA,YC,WG]⟩ (by simp only;omega))
theorem iN(F:Option Addr)(n fc:Nat)(x:Nat->List UInt8)(hF:HE H F n x)(hn:n<=1000000)(fv:Value)(p:Nat->Bool)(hp:∀j,j<n->∀H',H.le H'->CB M fv [vA (x j)] H' fun v H''=> H'.le H''/\v=.bool (p j)):
  aA M 144 #[.slice F n fc,fv] H (fun v H'=> H.le H'/\v=.bool (pA p n).isSome):=by
 have hi:=fun(H':View) (h':H.le H')=> C2 M H' F n fc x (hF.le h') hn fv p (fun j hj H'' h''=> hp j hj H'' (View.le_trans h' h''));cases hq:pA p n with
 | none=>
  rw[hq] at hi;have e:wB none= -1:=rfl;rw[e] at hi;refine .en func144 ntmps144 fun St c cs hK=> ?_;refine U8 ?_;refine .cl (fun H hs=> hi H hs.base) ?_;refine U3 ?_;refine .rt hK func144 results144 [_] ?_;exact okB
 | some j=>
  rw[hq] at hi;have e:wB (some j)=(j:Nat):=rfl;rw[e] at hi;refine .en func144 ntmps144 fun St c cs hK=> ?_;refine U8 ?_;refine .cl (fun H hs=> hi H hs.base) ?_;refine U3 ?_;refine .rt hK func144 results144 [_] ?_;exact okB
theorem QV(x:Int):aA M 140 #[.int .i64 x] H (fun v H'=> H.le H'/\v=.bool (!gF x)):=by
 cases h:gF x with
 | true=>
  refine .en func140 ntmps140 fun St c cs hK=> ?_;refine U7 ?_;refine .cl (fun H hs=> CA M H x 0 99 true h) ?_;refine U3 ?_;refine .rt hK func140 results140 [_] ?_;exact okB
 | false=>
  refine .en func140 ntmps140 fun St c cs hK=> ?_;refine U7 ?_;refine .cl (fun H hs=> CA M H x 0 99 false h) ?_;refine U3 ?_;refine .rt hK func140 results140 [_] ?_;exact okB
theorem o6(s:List UInt8)(b:Nat)(f:Bool)(hb:H b=some (f,.cells ⟨[vA s]⟩ 9 (0,0)))(o:List UInt8):
  aA M 145 #[vA o,.pointer (some ⟨b,0,none⟩)] H (fun v H'=> H.le H'/\v=.bool (WC o s)):=by
 cases h1:AB o s with
 | true=>
  have e:WC o s=true:=by unfold WC;rw[h1];rfl
  rw[e];refine .en func145 ntmps145 fun St c cs hK=> ?_;refine U8 ?_;refine .cl (fun H hs=> ZD M H o s true h1) ?_;refine U7 ?_;refine .rt hK func145 results145 [_] ?_;exact okB
 | false=>
  have e:WC o s=AB s o:=by unfold WC;rw[h1];rfl
  rw[e];refine .en func145 ntmps145 fun St c cs hK=> ?_;refine U8 ?_;refine .cl (fun H hs=> ZD M H o s false h1) ?_;refine U3 ?_;refine .cl (fun H hs=> CF M H s o) ?_;refine U3 ?_;refine .rt hK func145 results145 [_] ?_;exact okB
end
def PB(l:List (List UInt8)):List Value:=l.map vA
theorem xF(l:List (List UInt8)):(PB l).length=l.length:=by simp[PB]
theorem wF(l m:List (List UInt8)):PB (l++m)=PB l++PB m:=by simp[PB]
theorem aM(l:List (List UInt8)):(PB l).all single=true:=by
 rw[List.all_eq_true];intro x hx;obtain⟨s,_,rfl⟩:=List.mem_map.1 hx;rfl
def KQ(many:Nat)(dg:List UInt8)(s: { p:Nat×Nat//p.1≠p.2 }):Bl:= [(s.1.1,true,.cells ⟨[.int .i64 (many:Nat)]⟩ 3 (0,0)),(s.1.2,true,.cells ⟨[vA dg]⟩ 9 (0,0))]
theorem QT(many:Nat)(dg:List UInt8)(s: { p:Nat×Nat//p.1≠p.2 }):((KQ many dg s).map (·.1)).Nodup:=by
 obtain⟨⟨a,b⟩,h⟩:=s;simp only[KQ,List.map_cons,List.map_nil,List.nodup_cons,List.mem_singleton,List.not_mem_nil,not_false_eq_true,List.nodup_nil,and_true];exact h
section
variable(M:Md prog)(H:View)
theorem aD1(many:Nat)(dg:List UInt8):aA M 139 #[.int .i64 (many:Nat),vA dg] H (fun v H'=> H.le H'/\∃s: { p:Nat×Nat//p.1≠p.2 },v=TT s.1.1 s.1.2/\True/\∀y∈KQ many dg s,H' y.1=some y.2/\H y.1=none):=by
 refine .en func139 ntmps139 fun St c cs hK=> ?_;refine U2 ?_;refine .bo fun b2=> ?_;refine .bo fun b3=> ?_;refine U7 ?_;refine .rt hK func139 results139 [_] ?_;intro H' hs;have jF:=hs.nodup;have uB:b2≠b3:=by
  simp only[List.map_cons,List.map_nil,List.nodup_cons,List.mem_singleton] at jF;exact fun e=> jF.1 e.symm
 refine⟨hs.base,⟨(b2,b3),uB⟩,rfl,trivial,fun y hy=> ?_⟩;have hy':y=(b2,true,.cells ⟨[.int .i64 (many:Nat)]⟩ 3 (0,0))\/y=(b3,true,.cells ⟨[vA dg]⟩ 9 (0,0)):=by simpa [KQ] using hy
 rcases hy' with rfl|rfl
 ·exact⟨hs.get (i:=1) rfl,hs.out _ (List.mem_cons_of_mem _ (List.mem_cons_self ..))⟩
 ·exact⟨hs.get (i:=0) rfl,hs.out _ (List.mem_cons_self ..)⟩
def aFE(H₁:View)(g:Gl 9 1)(l xs:List (List UInt8))(v:Value)(H3:View):Prop:=
 ∃(g':Gl 9 1) (H₂:View),v=g'.val/\H₁.le H₂/\kA H₂ g'.bl H3/\g'.l=PB (l++xs)/\g'.n=g.n+xs.length
theorem zT(g:Gl 9 1)(l:List (List UInt8))(hg:g.l=PB l)(iK:g.n<=100000)(many:Nat)(dg:List UInt8)(hm:many<=1000)(YW:dg.all TE=true)(ZQ:dg.length<=1000)(uK:(sM dg many).length<=100000)(a1 a2:Nat)(H₁ Hc:View)(ZB:jM many dg a1 a2 H₁)(AS:kA H₁ g.bl Hc):
  aA M 141 #[g.val,TT a1 a2] Hc (aFE H₁ g l (sM dg many)):=by
 have qI:=fun(H':View) (_:jM many dg a1 a2 H')=> gH M H' many dg hm YW ZQ a1 a2;refine aA.enter (vs:= [g.val,TT a1 a2]) func141 rfl ntmps141 (Nat.le_of_ble_eq_true rfl) (AS) fun St c cs hK=> ?_;refine U2 ?_;refine .bo fun b2=> ?_;refine U8 ?_;refine Tc.db (R':= [(2,.pointer (some ⟨b2,0,none⟩)),(6,TT a1 a2)]) (L':= [(b2,true,.cells ⟨[g.val]⟩ 107 (0,0))]++g.bl) ?_;refine Tc.aI (A:= []) (ts:= [7]) (xs:=sM dg many) (fun rest H₄ L₄=> ∃(g':Gl 9 1) (dn:List (List UInt8)),L₄= [(b2,true,.cells ⟨[g'.val]⟩ 107 (0,0))]++g'.bl/\g'.l=PB (l++dn)/\g'.n=g.n+dn.length/\dn++rest=sM dg many/\jM many dg a1 a2 H₄/\H₁.le H₄) (fun _ _ _=> False) rfl rfl rfl rfl qI (fun _ _=> jM.le _ _) (fun _ _ _ ⟨_,_,_,_,_,_,h,_⟩=> h) rfl (fun _ _=> rfl)
   ⟨g,[],rfl,by rw[List.append_nil];exact hg,rfl,rfl,ZB,View.le_refl _⟩ ?_ ?_ (fun _ _ _ _ h=> h.elim)
 ·rintro r x rest _ lp tmps asg bdy H₄ _ hx ⟨g',dn,rfl,q1,q2,q3,q4,q5⟩ Q St1 cc1 cs1 eK q q';have aGY:dn.length<=100000:=by
   have:=congrArg List.length q3;rw[List.length_append] at this;omega
  refine U3 ?_;refine Tc.beginRound (i:=0) rfl rfl rfl ?_;refine U4 ?_;refine .e (.bs (zz:=fun bs=> ?_));refine .e (Or.append (E:=en) 4 rfl rfl rfl rfl rfl rfl rfl rfl rfl rfl rfl rfl rfl rfl rfl (fun H hs=> UA.of (hs.get (i:=0) rfl) (Nat.le_of_ble_eq_true rfl)) rfl oM rfl dE (fun g2 aW xN=> ?_));refine U3 ?_;refine Tc.FA eK (i:=1) rfl (.inl ⟨rfl,rfl⟩) (fun H' hs=> q H' H₄ _ (hs.less sL) ⟨g2,dn++[x],rfl,by rw[xN,q1,<-List.append_assoc,wF (l++dn) [x]];rfl,by rw[aW,q2,List.length_append];rfl,by rw[List.append_assoc];exact q3,q4,q5⟩)
 ·rintro r H₄ _ ⟨g',dn,rfl,q1,q2,q3,q4,q5⟩;rw[List.append_nil] at q3;subst q3;refine U6 ?_;refine Tc.gO (E:=en) (i:=0) hK func141 results141 (vs:= [_]) rfl ⟨rfl,trivial⟩ ?_;exact fun H' hs=> ⟨g',H₄,rfl,q5,hs.less sL,q1,q2⟩
theorem eU(a:Option Addr)(m ca:Nat)(l:List Value)(hm:m<=100000)(AF:UA H 1 (.slice a m ca) m l)(h1:l.all single=true):aA M 143 #[.slice a m ca] H (fun v H'=> H.le H'/\∃g:Gl 9 1,v=g.val/\(g.l=l/\g.n=m)/\∀x∈g.bl,H' x.1=some x.2/\H x.1=none):=by
 refine .en func143 ntmps143 fun St c cs hK=> ?_;cases a with
 | none=>
  refine U8 ?_;refine .x (xA.rN (E:=en) rfl rfl rfl rfl rfl) ?_;refine U6 ?_;refine .rt hK func143 results143 [_] ?_;obtain⟨_,h2,h3|⟨b,off,_,_,_,_,_,h3,_⟩⟩:=AF
  ·obtain⟨_,_,_,rfl⟩:=h3;have:m=0:=by simp at h2;omega
   subst this;exact fun H' hs'=> ⟨hs'.base,Gl.nil 9 1,rfl,⟨rfl,rfl⟩,by simp[Gl.nil,Gl.bl]⟩
  ·cases h3
 | some a=>
  refine U8 ?_;refine .x (xA.rN (E:=en) rfl rfl rfl rfl rfl) ?_;refine U5 ?_;refine .e (.bs (zz:=fun bs=> ?_));refine U ?_;refine .e (Or.append (E:=en) (g:=Gl.emp 9 1 bs) 0 rfl rfl rfl rfl rfl rfl rfl rfl rfl rfl rfl rfl rfl rfl rfl (fun H' hs'=> AF.mono hs'.base) h1 (by show 0+m<=_;omega) rfl dE (fun g' hn hl=> ?_));refine U2 ?_;refine .rt hK func143 results143 [_] ?_;exact fun H' hs'=> ⟨hs'.base,g',rfl,⟨by rw[hl];rfl,by rw[hn];show 0+m=m;omega⟩,fun x hx=> ⟨hs'.at_ x hx,hs'.out x hx⟩⟩
end
end Go.Proofs.YtldmfjcgjdchcaaGreatDoor
namespace Go.RL
open Go.Conc
section
variable {P:Program}{M:Md P}{St:View->Goroutine->Prop}{n:Nat}{b:FB}{H₀:View}{cs:List Frame}{R:Rg}{L L₁:Bl}{ds:List Deferred}{k:List Item}{md:Region.Mode}{ops:Array Oper}{S:Array Bool->View->Prop}{fuel:Nat}{listed:Array Bool}
theorem Ta.IN(p:L₁.Perm L)(h:Ta M St n b H₀ cs S md ops fuel listed R L₁ ds k):Ta M St n b H₀ cs S md ops fuel listed R L ds k:=fun H tmps hs=> h H tmps (hs.perm p)
end
end Go.RL
