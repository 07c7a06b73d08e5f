/-
 Texts of the proofs over baudot/dial.
-/
import Derived.Test.YtldmfjcgjdchcaaGreatDoorS04
namespace Go.Proofs.YtldmfjcgjdchcaaGreatDoor
open Go.RL Go.Proofs.Tryz
set_option maxRecDepth 10000
set_option maxHeartbeats 16000000
theorem mO {f:Nat->Int}:∀n,JC f n=0->∀i,i<n->f i=0
 | 0,_,i,hi=> by omega
 | n + 1,h,i,hi=> by
  rw[JC] at h;split at h
  ·rename_i h0
   by_cases e:i=n
   ·subst e;exact h
   ·exact mO n h0 i oM
  ·rename_i h0
   exact(h0 h).elim
theorem Bk.FH {k:Bk}(h:k.WA=0){i:Nat}(hi:i<k.nl):yJ (k.name i)=true/\k.again i=false/\isNum (k.num i)=true/\(k.pre i).clash (k.num i)=false/\(1<=k.nf i/\k.nf i<=4)/\∀j,j<k.nf i->0<=k.free i j/\k.free i j<=2:=by
 obtain⟨_,h2,_⟩:=Bk.x6 h;unfold Bk.AE at h2;split at h2
 ·cases h2
 ·have h3 :=mO _ h2 i hi;unfold Bk.sC at h3;split at h3
  ·cases h3
  ·rename_i q0
   split at h3
   ·cases h3
   ·rename_i q1
    split at h3
    ·cases h3
    ·rename_i q2
     split at h3
     ·cases h3
     ·rename_i q3
      split at h3
      ·cases h3
      ·rename_i q4
       split at h3
       ·cases h3
       ·rename_i q5
        have q4':=of_decide_eq_true (Bool.not_eq_false _▸q4:decide _=true);refine⟨by simpa using q0,by simpa using q1,by simpa using q2,by simpa using q3,oM,fun j hj=> ?_⟩;unfold Bk.SI at q5;have h4:kA (fun j=> !gE (k.free i j)) (k.nf i)=none:=by
         cases hz:kA (fun j=> !gE (k.free i j)) (k.nf i) with
         | none=> rfl
         | some y=> rw[hz] at q5;exact(q5 rfl).elim
        have h5:=(RB _).1 h4 j hj;unfold gE at h5;simpa using h5
theorem vI {sz off d:Nat}{gs c:List Value}(h:zE true sz gs off=some (.agg ⟨c⟩))(hd:d<sz):zE false 1 gs (off+d)=c[d]? :=by
 obtain⟨h1,h2⟩:=tQ h;simp only[Value.agg.injEq,Array.mk.injEq] at h2;show gs[_]? =_;rw[h2,List.getElem?_take,if_pos hd,List.getElem?_drop]
def tkL(k:Bk)(line j:Nat):List Value:=(List.range 4).map fun i=> .int .i64 (if i<j then k.GG line i else 0)
theorem aEL(k:Bk)(line j:Nat)(hj:j<4):wH (tkL k line j) (0+((j:Nat):Int).toNat*1) [.iz (k.GG line j)]=tkL k line (j+1):=by
 rcases(by omega:j=0\/j=1\/j=2\/j=3) with rfl|rfl|rfl|rfl <;> rfl
theorem aBV(k:Bk)(line n:Nat)(hn:n<=4){H:View}{b:Nat}{f:Bool}{gt:TypeId}{gz:Nat×Nat}(hb:H b=some (f,.cells ⟨tkL k line n⟩ gt gz)):RA H 1 (.slice (some ⟨b,0,none⟩) n 4) n (VW (k.GG line) n):=by
 have h:=RA.of (sz:=1) (m:=n) (c:=4) (off:=0) hb (by simp[tkL];omega);have e:((tkL k line n).drop 0).take (n*1)=VW (k.GG line) n:=by
  rcases(by omega:n=0\/n=1\/n=2\/n=3\/n=4) with rfl|rfl|rfl|rfl|rfl <;> rfl
 rw[e] at h;exact h
theorem tX(f:Nat->Int)(n:Nat):(VW f n).all single=true:=by
 rw[List.all_eq_true];intro x hx;obtain⟨i,_,rfl⟩:=List.mem_map.1 hx;rfl
section
variable(M:Md prog)(H:View)
theorem aAT(k:Bk)(A:Option Addr)(lc:Nat)(B:Option Addr)(tc:Nat)(hk:QD H k A lc B tc)(hn:k.small)(hG:mG H)(ha:k.WA=0)(line:Nat)(hl:line<k.nl):
  fA M 54 #[k.val A lc B tc,.nt line] H (fun v H'=> H.le H'/\∃g:Gl 110 1,v=I9 g (k.oG line (k.nf line)) 0/\(g.n=k.nf line/\g.l=VW (k.GG line) (k.nf line))/\∀x∈g.bl,H' x.1=some x.2/\H x.1=none):=by
 obtain⟨_,oP,oL,QC⟩:=Bk.valid ha;obtain⟨_,_,_,_,J2,lP⟩:=Bk.FH ha hl;have hb:=fun(H':View)=> uA M H' ((line:Nat):Int) 0 ((k.nl:Int)-1) true (decide_eq_true oM);have lA:=fun(H':View) (h':H.le H')=> oD M H' k A lc B tc (hk.le h') hn (NA hG h') ha;have zV:=hk.rows;obtain⟨_,h0|⟨ab,ao,fa,gs,gt,gz,rfl,AR,K2⟩⟩:=zV
 ·omega
 obtain⟨F,fc,f1,OX,hF⟩:=K2 line hl;have f2:zE false 1 gs (ao+((line:Nat):Int).toNat*3+2)=some (.slice F (k.nf line) fc):=vI f1 dE;obtain h0|⟨fb,fo,ff,fs,ft,fz,rfl,hfb,kS⟩:=hF
 ·omega
 obtain⟨_,fg,gt1,gz1,hg1⟩:=hG;refine .en func54 ntmps54 fun St c cs hK=> ?_;refine U2 ?_;refine .bo fun b2=> ?_;refine U5 ?_;refine Tc.dr [12] [] mixed rfl ?_;refine V6 0 ?_;refine .z 6 rfl (pA.tk fun H hs=> hb H) ?_;refine .z 7 rfl (pA.tk fun H hs=> lA H hs.base) ?_;refine V2 8 ?_;refine .nw 10 ?_;refine .ea 11 rfl (.al (zz:=fun b7=> ⟨S2.mk sL (.inr sL),?_⟩));refine .e 12 0 ?_;refine .nw 13 ?_;refine .dn ?_;refine iD ?_;refine .al fun b8=> ?_;refine U4 ?_;refine To.YB rfl rfl rfl rfl rfl rfl dE (WB.h (GK M H k (some ⟨ab,ao,none⟩) lc B tc hk.rows hn.nl hk.xC QC oL)) (fun v H₂ hv=> ?_);obtain⟨hle,m,es,cl,rfl,⟨fm,q3⟩,q4⟩:=hv;have aHK:=hle _ _ AR;have aHP:=hle _ _ hfb;have fQ:=hle _ _ hg1;refine U ?_;refine .cl (fun H hs=> qN M H k (line:Nat) m es cl fm (hs.base _ _ q3) q4) ?_;refine eO ?_;refine Tc.db (Tc.qA (σ:= { j:Nat//j<=k.nf line }) (fun j=> ([(2,.pt b2),(4,.slice none 0 0),(5,.iz (k.oG line j.1)),(7,.pt b7),(8,.pt b8),(9,.slice (some ⟨fb,fo,none⟩) (k.nf line) fc),(36,.slice (some ⟨fb,fo,none⟩) (k.nf line) fc),(37,.iz (k.nf line:Nat)),(38,.nt j.1)],
  [Bb b8 (tkL k line j.1) 240,Bb b7 ((k.val (some ⟨ab,ao,none⟩) lc B tc).cells.toList) 166,Bb b2 ((k.val (some ⟨ab,ao,none⟩) lc B tc).cells.toList) 45])) (fun j=> k.nf line-j.1) ?_ ⟨0,Nat.zero_le _⟩)
 rintro⟨j,hj⟩ ih;show Tc M St _ _ _ _ [(2,.pt b2),(4,.slice none 0 0),(5,.iz (k.oG line j)),(7,.pt b7),(8,.pt b8),(9,.slice (some ⟨fb,fo,none⟩) (k.nf line) fc),(36,.slice (some ⟨fb,fo,none⟩) (k.nf line) fc),(37,.iz (k.nf line:Nat)),(38,.nt j)]
  [Bb b8 (tkL k line j) 240,Bb b7 ((k.val (some ⟨ab,ao,none⟩) lc B tc).cells.toList) 166,Bb b2 ((k.val (some ⟨ab,ao,none⟩) lc B tc).cells.toList) 45] _ _
 by_cases c1:j=k.nf line
 ·subst c1;refine uH ?_;refine .x (pA.kU (E:=en) (off':=0) rfl rfl rfl rfl rfl rfl rfl rfl oM oM oM (by rw[if_neg dE];rfl)) ?_;refine .e (Or.append (E:=en) (g:=Gl.nil 110 1) (m:=k.nf line) (new:=VW (k.GG line) (k.nf line)) (yv:=.slice (some ⟨b8,0,none⟩) (k.nf line) 4) 3 rfl rfl rfl rfl rfl rfl rfl rfl rfl rfl rfl rfl rfl rfl rfl (fun H hs=> aBV k line (k.nf line) J2.2 (hs.get (i:=0) rfl)) (tX _ _) (by show 0+k.nf line<=_;omega) rfl dE (fun g' dI LG=> ?_));refine U5 ?_;refine .rt hK func54 results54 [_,_,_] ?_;exact fun H' hs=> ⟨View.le_trans hle hs.base,g',rfl,⟨by rw[dI];exact Nat.zero_add _,by rw[LG];rfl⟩,fun x hx=> ⟨hs.at_ x (by simp[hx]),none_le hle (hs.out x (by simp[hx]))⟩⟩
 ·have c2:j<k.nf line:=by omega
  have f3:=kS j c2;have hfj:=lP j c2;obtain⟨nz,hnz⟩:∃z,(if k.free line j=0 then 0 else if k.free line j=1 then 2 else 1:Int)=z:=⟨_,rfl⟩
  have f4:zE false 1 [Value.int .i64 0,.iz 2,.iz 1] (0+(k.free line j).toNat*1)=some (.int .i64 nz):=by
   rw[<-hnz];rcases(by omega:k.free line j=0\/k.free line j=1\/k.free line j=2) with h|h|h <;> rw[h] <;> rfl
  have f5:Nat.ble (0+((j:Nat):Int).toNat*1+1) (tkL k line j).length=true:=by
   refine Nat.ble_eq_true_of_le ?_;rw[Int.toNat_natCast];simp[tkL]
   omega
  have f6:=aEL k line j oM;have en1:k.oG line (j+1)=gJ (k.oG line j) nz:=by rw[Bk.oG,hnz]
  refine II ?_;refine Tc.dr [10] [0] mixed rfl ?_;refine V3 0 ?_;refine .z 3 rfl (pA.tk fun H hs=> aB6 M H (k.oG line j) (k.free line j)) ?_;refine .nw 4 ?_;refine .nw 5 ?_;refine .nw 6 ?_;refine .nn 7 ?_;refine .z 8 rfl (pA.tk fun H hs=> aB6 M H (k.oG line j) nz) ?_;refine .nn 9 ?_;refine .e 10 0 ?_;refine .nw 11 ?_;refine .dn ?_;refine U5 ?_;refine Tc.yC (ih ⟨j+1,oM⟩ Ob) ?_ ?_
  ·simp only[en1];exact⟨rfl,rfl,rfl,rfl,rfl,rfl,rfl,rfl,rfl,trivial⟩
  ·exact sL
end
theorem JB.bk {H:View}{k:Bk}{A:Option Addr}{lc:Nat}{B:Option Addr}{tc:Nat}{F:Nat->Option Addr}{fc:Nat->Nat}(h:JB H k A lc B tc F fc):QD H k A lc B tc:=⟨h.M9,h.bR⟩
def aB7(x:Value)(a:Int):Value:=.tuple ⟨[x,.iz a]⟩
def o9(a:Int):Value:=aB7 (bk0.val none 0 none 0) a
def imax(a b:Int):Int:=if a<b then b else a
def qM(a b:Int):Int:=if b<a then b else a
def Bk.r9(k:Bk)(t:Nat)(a b c' d:Int):Bool:=vB (imax (k.pf t) a) (qM (k.pt t) b) (imax (k.qf t) c') (qM (k.qt t) d)
def Bk.now(k:Bk)(t:Nat)(a b c' d:Int):Bk:=k.with t (imax (k.pf t) a) (qM (k.pt t) b) (imax (k.qf t) c') (qM (k.qt t) d)
section
variable(M:Md prog)(H:View)
theorem aCr(k:Bk)(A:Option Addr)(lc:Nat)(B:Option Addr)(tc:Nat)(hk:QD H k A lc B tc)(hn:k.small)(hG:mG H)(ha:k.WA=0)(t:Nat)(ht:t<k.nt)(a b c' d:Int)(hx:vB a b c' d=false):
  fA M 53 #[k.val A lc B tc,.nt t,bE a b c' d] H (Ib H (o9 1)):=by
 have oL:=hn.nt;have hb:=fun(H':View)=> uA M H' ((t:Nat):Int) 0 ((k.nt:Int)-1) true (decide_eq_true oM);refine .en func53 ntmps53 fun St c cs hK=> ?_;refine U2 ?_;refine .bo fun b3=> ?_;refine .bo fun b5=> ?_;refine .al fun b6=> ?_;refine U3 ?_;refine Tc.dr [12] [] mixed rfl ?_;refine V6 0 ?_;refine .z 6 rfl (pA.tk fun H hs=> hb H) ?_;refine .z 7 rfl (pA.tk fun H hs=> oD M H k A lc B tc (hk.le hs.base) hn (NA hG hs.base) ha) ?_;refine V2 8 ?_;refine .nw 10 ?_;refine .ea 11 rfl (.al (zz:=fun b8=> ⟨S2.mk sL (.inr sL),?_⟩));refine .e 12 0 ?_;refine .nw 13 ?_;refine .dn ?_;refine uH ?_;refine .cl (fun H hs=> tH (FF M H a b c' d) hx) ?_;refine iD ?_;refine .rt hK func53 results53 [_,_] ?_;exact okB
theorem aAw(k:Bk)(A:Option Addr)(lc:Nat)(B:Option Addr)(tc:Nat)(hk:QD H k A lc B tc)(hn:k.small)(hG:mG H)(ha:k.WA=0)(t:Nat)(ht:t<k.nt)(a b c' d:Int)(hx:vB a b c' d=true)(hy:k.r9 t a b c' d=false):
  fA M 53 #[k.val A lc B tc,.nt t,bE a b c' d] H (Ib H (o9 10)):=by
 have oL:=hn.nt;have hb:=fun(H':View)=> uA M H' ((t:Nat):Int) 0 ((k.nt:Int)-1) true (decide_eq_true oM);have hT:=hk.xC;obtain⟨_,h0|⟨tb,to,ft,gs,gt,gz,rfl,htb,hl⟩⟩:=hT
 ·omega
 have f1:=hl t ht;refine .en func53 ntmps53 fun St c cs hK=> ?_;refine U2 ?_;refine .bo fun b3=> ?_;refine .bo fun b5=> ?_;refine .al fun b6=> ?_;refine U3 ?_;refine Tc.dr [12] [] mixed rfl ?_;refine V6 0 ?_;refine .z 6 rfl (pA.tk fun H hs=> hb H) ?_;refine .z 7 rfl (pA.tk fun H hs=> oD M H k A lc (some ⟨tb,to,none⟩) tc (hk.le hs.base) hn (NA hG hs.base) ha) ?_;refine V2 8 ?_;refine .nw 10 ?_;refine .ea 11 rfl (.al (zz:=fun b8=> ⟨S2.mk sL (.inr sL),?_⟩));refine .e 12 0 ?_;refine .nw 13 ?_;refine .dn ?_;refine uH ?_;refine .cl (fun H hs=> tH (FF M H a b c' d) hx) ?_;refine JG ?_;refine .al fun b10=> ?_;refine U3 ?_;refine Tc.dr [12] [] mixed rfl ?_;refine V4 0 ?_;refine .z 4 rfl (pA.tk fun H hs=> gT M H (k.pf t) (k.pt t) a b (imax (k.pf t) a) (qM (k.pt t) b) rfl rfl) ?_;refine V4 5 ?_;refine .z 9 rfl (pA.tk fun H hs=> gT M H (k.qf t) (k.qt t) c' d (imax (k.qf t) c') (qM (k.qt t) d) rfl rfl) ?_;refine .nn 10 ?_;refine .ea 11 rfl (.al (zz:=fun b11=> ⟨S2.mk sL (.inr sL),?_⟩));refine .e 12 0 ?_;refine .dn ?_;refine U4 ?_;refine .cl (fun H hs=> tH (FF M H (imax (k.pf t) a) (qM (k.pt t) b) (imax (k.qf t) c') (qM (k.qt t) d)) hy) ?_;refine U9 ?_;refine .rt hK func53 results53 [_,_] ?_;exact okB
theorem P5(k:Bk)(A:Option Addr)(lc:Nat)(B:Option Addr)(tc:Nat)(F:Nat->Option Addr)(fc:Nat->Nat)(hB:JB H k A lc B tc F fc)(hn:k.small)(hG:mG H)(ha:k.WA=0)(t:Nat)(ht:t<k.nt)(a b c' d:Int)(hx:vB a b c' d=true)(hy:k.r9 t a b c' d=true):
  fA M 53 #[k.val A lc B tc,.nt t,bE a b c' d] H (fun v H'=> H.le H'/\∃A' lc' B' tc' F' fc',v=aB7 ((k.now t a b c' d).val A' lc' B' tc') 0/\JB H' (k.now t a b c' d) A' lc' B' tc' F' fc'):=by
 have hk:=hB.bk;have oL:=hn.nt;have hb:=fun(H':View)=> uA M H' ((t:Nat):Int) 0 ((k.nt:Int)-1) true (decide_eq_true oM);have hT:=hk.xC;obtain⟨_,h0|⟨tb,to,ft,gs,gt,gz,rfl,htb,hl⟩⟩:=hT
 ·omega
 have f1:=hl t ht;refine .en func53 ntmps53 fun St c cs hK=> ?_;refine U2 ?_;refine .bo fun b3=> ?_;refine .bo fun b5=> ?_;refine .al fun b6=> ?_;refine U3 ?_;refine Tc.dr [12] [] mixed rfl ?_;refine V6 0 ?_;refine .z 6 rfl (pA.tk fun H hs=> hb H) ?_;refine .z 7 rfl (pA.tk fun H hs=> oD M H k A lc (some ⟨tb,to,none⟩) tc (hk.le hs.base) hn (NA hG hs.base) ha) ?_;refine V2 8 ?_;refine .nw 10 ?_;refine .ea 11 rfl (.al (zz:=fun b8=> ⟨S2.mk sL (.inr sL),?_⟩));refine .e 12 0 ?_;refine .nw 13 ?_;refine .dn ?_;refine uH ?_;refine .cl (fun H hs=> tH (FF M H a b c' d) hx) ?_;refine JG ?_;refine .al fun b10=> ?_;refine U3 ?_;refine Tc.dr [12] [] mixed rfl ?_;refine V4 0 ?_;refine .z 4 rfl (pA.tk fun H hs=> gT M H (k.pf t) (k.pt t) a b (imax (k.pf t) a) (qM (k.pt t) b) rfl rfl) ?_;refine V4 5 ?_;refine .z 9 rfl (pA.tk fun H hs=> gT M H (k.qf t) (k.qt t) c' d (imax (k.qf t) c') (qM (k.qt t) d) rfl rfl) ?_;refine .nn 10 ?_;refine .ea 11 rfl (.al (zz:=fun b11=> ⟨S2.mk sL (.inr sL),?_⟩));refine .e 12 0 ?_;refine .dn ?_;refine U4 ?_;refine .cl (fun H hs=> tH (FF M H (imax (k.pf t) a) (qM (k.pt t) b) (imax (k.qf t) c') (qM (k.qt t) d)) hy) ?_;refine U9 ?_;refine To.YB rfl rfl rfl rfl rfl rfl dE (WB.h (aAu M H k A lc (some ⟨tb,to,none⟩) tc F fc hB hn.nl hn.nt (fun i hi=> (hn.num i hi).2) t ht (imax (k.pf t) a) (qM (k.pt t) b) (imax (k.qf t) c') (qM (k.qt t) d))) (fun v H₅ hv=> ?_);obtain⟨FT,A',lc',B',tc',F',fc',rfl,hB'⟩:=hv;refine U4 ?_;refine .rt hK func53 results53 [_,_] ?_;exact fun H' hs=> ⟨View.le_trans FT hs.base,A',lc',B',tc',F',fc',rfl,hB'.le hs.base⟩
end
end Go.Proofs.YtldmfjcgjdchcaaGreatDoor
namespace Go.RL
open Go.Conc
def UA(s:By):List Value:=s.map fun b=> .int .u8 (b.toNat:Nat)
theorem WG(s:By):(UA s).length=s.length:=by simp[UA]
theorem NI(s t:By):UA (s++t)=UA s++UA t:=by simp[UA]
theorem wR(s:By):(UA s).all single=true:=by
 rw[List.all_eq_true];intro x hx;obtain⟨b,_,rfl⟩:=List.mem_map.1 hx;rfl
section
variable {P:Program}{E:Env P}{M:Md P}{n:Nat}{H₀:View}{R:Rg}{L L':Bl}{K:Rg->Bl->Prop}{o:Oper}{d:Nat}{v:Value}
theorem HP(a:By)(b:UInt8):(ByteArray.mk ⟨a⟩).push b=ByteArray.mk ⟨a++[b]⟩:=by
 apply ByteArray.ext
 apply Array.ext'
 simp
theorem aL {H:View}{Q:ByteArray->View->Prop}(F:Value->ByteArray->Sem (ForInStep ByteArray))(hF:∀(b:UInt8) acc,F (.int .u8 (b.toNat:Nat)) acc=Sem.pure (.yield (acc.push b))):∀(s a:By),Q ⟨⟨a++s⟩⟩ H->HA P (forIn (UA s) (ByteArray.mk ⟨a⟩) F) H Q
 | [],a,h=> by
  rw[List.append_nil] at h;exact h
 | b::s,a,h=> by
  show HA P (forIn (Value.int .u8 (b.toNat:Nat)::UA s) (ByteArray.mk ⟨a⟩) F) H Q;rw[List.forIn_cons];refine aA _ _ ?_;rw[hF];show HA P (forIn (UA s) ((ByteArray.mk ⟨a⟩).push b) F) H Q;rw[HP];refine aL F hF s (a++[b]) ?_;rw[List.append_assoc];exact h
theorem TM {H:View}{Q:Value->View->Prop}{y:Value}{m:Nat}{s:By}(h:RA H 1 y m (UA s))(hq:Q (bA s) H):HA P (Conv.bytesToString y) H Q:=by
 obtain⟨_,hl,⟨a,c,rfl,he⟩|⟨b,off,c,f,cs,e,fz,rfl,hb,hle,ht⟩⟩:=h
 ·have:s= []:=by cases s with
   | nil=> rfl
   | cons _ _=> cases he
  subst this;have hm:m=0:=by simpa [UA] using hl.symm
  subst hm;cases a with
  | none=> exact hq
  | some a=> exact hq
 ·have hm:m=(UA s).length:=by rw[hl,Nat.mul_one]
  unfold Conv.bytesToString;show HA P ((loadCellsFrom ⟨b,off,none⟩ 0 m #[]).bind _) H Q;refine aA _ _ (VF b off hb m 0 #[] (by rw[hm];omega) ?_);rw[hm,Nat.add_zero,ht];refine aA _ _ ?_;simp only[Array.empty_append,List.forIn_toArray];exact aL _ (fun b acc=> by
   show(pure (ForInStep.yield (acc.push (UInt8.ofNat ((b.toNat:Nat):Int).toNat))):Sem (ForInStep ByteArray))=Sem.pure (ForInStep.yield (acc.push b));rw[Int.toNat_natCast,UInt8.ofNat_toNat];rfl) s [] hq
theorem pA.aFg {t u e:TypeId}{x:Operand}{yv:Value}{m:Nat}{s:By}{r re r':FA}(lA:o.op=.convert t u x)(hx:JA R x=some yv)(eH:∀H,jA H₀ L H->RA H 1 yv m (UA s))(ht:E.ty t=some r)(hr:r.ds=.slice e)(hte:E.ty e=some re)(BD:re.ds=.int .u8)(o5:E.ty u=some r')(XD:r'.ds=.str):
  pA P n H₀ R L o (bA s):=fun H tmps hs L2=> by
 unfold execOp;rw[lA];simp only[L2.ev hx];have h1:=eH H hs;obtain⟨⟨a,c,rfl⟩,_⟩:=h1;refine aA (convert t u (.slice a m c)) _ ?_;unfold convert;refine aA (underlying t) _ (gA (UC ((E.ok _ _ ht).ds.trans hr)) (aA (underlying u) _ (gA (DF ((E.ok _ _ o5).ds.trans XD)) ?_)));refine aA (underlying e) _ (gA (mL ((E.ok _ _ hte).ds.trans BD)) ?_);exact TM (eH H hs) ⟨rfl,rfl⟩
end
end Go.RL
namespace Go.Proofs.YtldmfjcgjdchcaaGreatDoor
open Go.RL Go.Proofs.Tryz
set_option maxRecDepth 10000
set_option maxHeartbeats 8000000
theorem aEN:∀x:Nat,x<256->IntKind.u8.wrap (x:Int)=(x:Int):=by decide +kernel
section
variable(M:Md prog)(H:View)
end
end Go.Proofs.YtldmfjcgjdchcaaGreatDoor
namespace Go.RL
open Go.Conc
section
variable {P:Program}{E:Env P}{M:Md P}{n:Nat}{H₀:View}{R:Rg}{L L':Bl}{K:Rg->Bl->Prop}{o:Oper}{d:Nat}{v:Value}
structure Xt(P:Program)(f:FuncId)(e:Array Value->Sem Value):Prop where
 ex:∃fn,P.funcs[f]? =some fn/\(fn.name== "runtime.NumGoroutine")=false/\fn.body.isNone=true/\Extern.findNext fn=none/\Extern.find fn=some e
theorem IS {g:FuncId}{e:Array Value->Sem Value}{args:Array Value}{H:View}{Q:Next->View->Prop}(he:Xt P g e)(h:HA P (e args) H fun u H'=> Q (.value u) H'):HA P (callFunc g args) H Q:=by
 obtain⟨fn,h1,h2,h3,h4,h5⟩:=he;show HA P (match P.funcs[g]? with|none=> _|some fn=> _) H Q;rw[h1];simp only[h2,h3,h4,h5,Bool.false_eq_true,if_false,if_true];refine⟨rfl,?_⟩;exact aA (e args) _ h
theorem pA.entry {cl:Go.Call}{x:Operand}{g:FuncId}{az:List Value}{e:Array Value->Sem Value}(lA:o.op=.call cl)(iB:cl.callee=.value x)(hx:JA R x=some (.func (.func g) #[] #[]))(has:lD R cl.args.toList=some az)(he:Xt P g e)
  (hv:∀(H:View) (Q:Value->View->Prop),Q v H->HA P (e az.toArray) H Q):pA P n H₀ R L o v:=fun H tmps _ hr=> by
 have e1:=hr.ev hx;have cH:cl.args.map (OB tmps)=az.toArray:=by
  apply Array.ext'
  simpa using hr.evs has
 have hex:execOp (OB tmps) o=(resolve (OB tmps) cl o.type).bind fun d=> invoke d.target d.args:=by unfold execOp;rw[lA];rfl
 rw[hex];have:((resolve (OB tmps) cl o.type).bind fun d=> invoke d.target d.args)=(Deferred.ofValue (.func (.func g) #[] #[]) az.toArray).bind fun d=> invoke d.target d.args:=by
  unfold resolve;rw[iB];simp only[e1,cH]
 rw[this];simp only[Deferred.ofValue];show HA P (callFunc g (#[]++az.toArray ++ #[])) H _;have e3:(#[]:Array Value)++az.toArray ++ #[]=az.toArray:=by simp
 rw[e3];exact IS he (hv H _ ⟨rfl,rfl⟩)
theorem XY {H:View}{r:Nat}{f:Bool}{c:Array Value}{e:TypeId}{fz:Nat×Nat}{Q:Option (Addr×TypeId)->View->Prop}(hb:H r=some (f,.cells c e fz))(h:Q none H):HA P (viewAt r) H Q:=⟨f,c,e,fz,hb,h⟩
theorem NW {H:View}{r:Nat}{f:Bool}{c:Array Value}{e:TypeId}{fz:Nat×Nat}{Q:Option Nat->View->Prop}(hb:H r=some (f,.cells c e fz))(h:Q (some c.size) H):HA P (cellsIn r) H Q:=⟨f,c,e,fz,hb,h⟩
theorem jR {H:View}{a:Addr}{f:Bool}{c:Array Value}{e:TypeId}{fz:Nat×Nat}{Q:Addr->View->Prop}(hb:H a.block=some (f,.cells c e fz))(h:Q a H):HA P (Conv.seenAt a) H Q:=by
 refine aA (viewAt a.block) _ (XY hb ?_);exact h
theorem pA.aHB(j:Nat){t u pt:TypeId}{x:Operand}{blk off:Nat}{f:Bool}{c:List Value}{e:TypeId}{fz:Nat×Nat}{r:FA}(lA:o.op=.convert t u x)(hx:JA R x=some (.pointer (some ⟨blk,off,none⟩)))(hi:L[j]? =some (blk,f,.cells ⟨c⟩ e fz))
  (ht:P.underlying t=some (.pointer pt)) (hu:P.underlying u=some .unsafePointer) (hr:E.ty pt=some r) (h0:Nat.beq r.size 0=false) (hl:Nat.blt off c.length=true):pA P n H₀ R L o (.pointer (some ⟨blk,off,none⟩)):=fun H tmps hs L2=> by
 unfold execOp;rw[lA];simp only[L2.ev hx];refine aA (convert t u (.pointer (some ⟨blk,off,none⟩))) _ ?_;unfold convert;refine aA (underlying t) _ (gA ht (aA (underlying u) _ (gA hu ?_)));show HA P (Conv.unsafePointer t u (.pointer (some ⟨blk,off,none⟩))) H _;unfold Conv.unsafePointer;refine aA (underlying t) _ (gA ht (aA (underlying u) _ (gA hu ?_)));have hb:=hs.get hi;refine aA (Conv.seenAt ⟨blk,off,none⟩) _ (jR hb ?_);refine aA (cellsIn blk) _ (NW hb ?_);refine aA (sizeOf pt) _ (ZA (E.ok _ _ hr).size ?_);have h1:r.size≠0:=Nat.ne_of_beq_eq_false h0;have h2:off<c.length:=by simpa [Nat.blt_eq] using hl
 have h3:(decide (r.size=0)||(decide (off≥(⟨c⟩:Array Value).size)&&(none:Option (Nat×Nat)).isNone))=false:=by
  have e1:decide (r.size=0)=false:=decide_eq_false h1;have e2:decide (off≥(⟨c⟩:Array Value).size)=false:=decide_eq_false (by show ¬off≥c.length;omega);rw[e1,e2];rfl
 rw[if_neg (by intro h;exact Bool.false_ne_true (h3.symm.trans h))];exact⟨rfl,rfl⟩
theorem pA.aCR(j:Nat){t u pt:TypeId}{x:Operand}{blk off:Nat}{f:Bool}{c:List Value}{e:TypeId}{fz:Nat×Nat}{r:FA}(lA:o.op=.convert t u x)(hx:JA R x=some (.pointer (some ⟨blk,off,none⟩)))(hi:L[j]? =some (blk,f,.cells ⟨c⟩ e fz))
  (ht:P.underlying t=some .unsafePointer) (hu:P.underlying u=some (.pointer pt)) (hr:E.ty pt=some r) (IV:liesAt P P.depth e (c.length/P.cellsOf e) off pt 1=true):pA P n H₀ R L o (.pointer (some ⟨blk,off,none⟩)):=fun H tmps hs L2=> by
 unfold execOp;rw[lA];simp only[L2.ev hx];refine aA (convert t u (.pointer (some ⟨blk,off,none⟩))) _ ?_;unfold convert;refine aA (underlying t) _ (gA ht (aA (underlying u) _ (gA hu ?_)));show HA P (Conv.unsafePointer t u (.pointer (some ⟨blk,off,none⟩))) H _;unfold Conv.unsafePointer;refine aA (underlying t) _ (gA ht (aA (underlying u) _ (gA hu ?_)));have hb:=hs.get hi;refine aA (Conv.seenAt ⟨blk,off,none⟩) _ (jR hb ?_);refine aA (sizeOf pt) _ (ZA (E.ok _ _ hr).size ?_);refine aA (variablesAt ⟨blk,off,none⟩ pt 1) _ ?_;refine⟨f,_,_,_,hb,?_⟩;show HA P (Sem.pure (liesAt P P.depth e (c.length/P.cellsOf e) off pt 1)) H _;rw[IV];show HA P (if(decide (r.size=0)||true)=true then _ else _) H _;rw[if_pos (by rw[Bool.or_true])];exact⟨rfl,rfl⟩
theorem pA.E9(b:Bool){t u pt:TypeId}{x y:Operand}{p:Option Addr}(lA:o.op=.binOp .eql t x y u)(hx:JA R x=some (.pointer p))(hy:JA R y=some (.pointer none))(ht:P.underlying t=some (.pointer pt))(hb:p.isNone=b):pA P n H₀ R L o (.bool b):=fun H tmps _ hr=> by
 subst hb;unfold execOp;rw[lA];simp only[hr.ev hx,hr.ev hy];show HA P (((eqGuard .eql t x y (.pointer p) (.pointer none)).bind fun _=> binOp .eql t (.pointer p) (.pointer none)).bind _) H _;refine aA _ _ (aA _ _ ?_);show HA P ((Op.equalIn (9999+1) t (.pointer p) (.pointer none)).bind fun c=> Sem.pure (Value.bool c)) H _;refine aA _ _ ?_;unfold Op.equalIn;refine aA (underlying t) _ (gA ht ?_);cases p <;> exact⟨rfl,rfl⟩
theorem pA.aBL {t u pt:TypeId}{x y:Operand}{a:Addr}{r:FA}(lA:o.op=.binOp .neq t x y u)(hx:JA R x=some (.pointer (some a)))(hy:JA R y=some (.pointer (some a)))(ht:P.underlying t=some (.pointer pt))(XD:E.ty pt=some r)(h0:Nat.beq r.size 0=false):
  pA P n H₀ R L o (.bool false):=fun H tmps _ hr=> by
 unfold execOp;rw[lA];simp only[hr.ev hx,hr.ev hy];show HA P (((eqGuard .neq t x y (.pointer (some a)) (.pointer (some a))).bind fun _=> binOp .neq t (.pointer (some a)) (.pointer (some a))).bind _) H _;refine aA _ _ (aA _ _ ?_);show HA P ((Op.equalIn (9999+1) t (.pointer (some a)) (.pointer (some a))).bind fun c=> Sem.pure (Value.bool (!c))) H _;refine aA _ _ ?_;unfold Op.equalIn;refine aA (underlying t) _ (gA ht ?_);refine aA (sizeOf pt) _ (ZA (E.ok _ _ XD).size ?_);have h1:r.size≠0:=Nat.ne_of_beq_eq_false h0;show HA P (if r.size≠0 then sameAddr a a else _) H _;rw[if_pos h1];have e:HA P (sameAddr a a) H fun c H'=> c=true/\H'=H:=by
  unfold sameAddr;simp only[BEq.rfl,if_true];exact⟨rfl,rfl⟩
 refine VA _ ?_ e;rintro _ _ ⟨rfl,rfl⟩;exact⟨rfl,rfl⟩
def F8(s:By)(c:UInt8):Int:=
 match (List.range s.length).find? fun i=> (ByteArray.mk ⟨s⟩)[i]! ==c with
 | some i=> (i:Nat)
 | none=> -1
theorem aB1 {s:By}{c:Nat}{H:View}{Q:Value->View->Prop}(h:Q (.int .i64 (F8 s (UInt8.ofNat c))) H):HA P (Extern.BytealgIndexByte.indexByte #[bA s,.int .u8 (c:Nat)]) H Q:=by
 show HA P (match (List.range s.length).find? fun i=> (ByteArray.mk ⟨s⟩)[i]! ==((c:Nat):Int).toNat.toUInt8 with|some i=> Sem.pure (goInt i)|none=> Sem.pure (goInt (-1))) H Q;rw[Int.toNat_natCast];have e:c.toUInt8=UInt8.ofNat c:=rfl;rw[e];unfold F8 at h;split at h
 ·exact h
 ·exact h
end
section
variable {P:Program}{E:Env P}{M:Md P}{n:Nat}{H₀:View}{R:Rg}{L L':Bl}{o:Oper}{K:Rg->Bl->Prop}{d:Nat}
theorem jA.sub {H:View}(h:jA H₀ L H)(p:L'.Sublist L):jA H₀ L' H:=
 ⟨h.nodup.sublist (p.map _),fun x hx=> h.out x (p.subset hx),fun x hx=> h.at_ x (p.subset hx),h.base⟩
def dO {σ:Type}(H₁:View)(val:σ->Value)(bl:σ->Bl)(p:σ->Prop)(v:Value)(H':View):Prop:=
 ∃s H₂,v=val s/\H₁.le H₂/\jA H₂ (bl s) H'/\p s
theorem Or.mN(k:Nat){σ:Type}(val:σ->Value)(bl:σ->Bl)(p:σ->Prop){cl:Go.Call}{x:Operand}{fv:Value}{az:List Value}(lA:o.op=.call cl)(iB:cl.callee=.value x)(hx:JA R x=some fv)(has:lD R cl.args.toList=some az)
  (hc:∀H₁ H,jA H₀ (L.take k) H₁->jA H₁ (L.drop k) H->WB M fv az H (dO H₁ val bl p))
  (hk:∀s,p s->∃R',(match o.dst with|some d=> d<n/\R'=(d,val s)::R|none=> R'=R)/\K R' (L.take k++bl s)):Or M n H₀ R L o K:=
 .IP lA iB hx has (Q:=fun _ v H'=> ∃s,v=val s/\p s/\jA H₀ (L.take k++bl s) H') (fun H hs=> by
  have hs':jA H₀ (L.drop k++L.take k) H:=hs.perm (List.perm_append_comm.trans (by rw[List.take_append_drop]));obtain⟨H₁,h1,h2⟩:=hs'.AD;refine(hc H₁ H h2 h1).mono ?_;rintro v H' ⟨s,H₂,rfl,h3,h4,h5⟩;exact⟨s,rfl,h5,((h2.mono h3).append h4).perm List.perm_append_comm⟩) (by
  rintro H v H' hs ⟨s,rfl,h1,h2⟩;obtain⟨R',h3,h4⟩:=hk s h1;exact⟨_,R',h2,h3,h4⟩)
theorem Or.SD(k:Nat){σ:Type}(val:σ->Value)(bl:σ->Bl)(p:σ->Prop){cl:Go.Call}{x:Operand}{fv:Value}{az:List Value}(lA:o.op=.call cl)(iB:cl.callee=.value x)(hx:JA R x=some fv)(has:lD R cl.args.toList=some az)(hd:o.dst=some d)(hn:d<n)
  (hc:∀H₁ H,jA H₀ (L.take k) H₁->jA H₁ (L.drop k) H->WB M fv az H (dO H₁ val bl p))
  (hk:∀s,p s->K ((d,val s)::R) (L.take k++bl s)):Or M n H₀ R L o K:=
 .mN k val bl p lA iB hx has hc fun s hs=> ⟨_,by rw[hd];exact⟨hn,rfl⟩,hk s hs⟩
theorem Or.X6 {t u e:TypeId}{x:Operand}{s:By}{r re r':FA}(lA:o.op=.convert t u x)(hx:JA R x=some (bA s))(ht:E.ty t=some r)(hr:r.ds=.str)(o5:E.ty u=some r')(XD:r'.ds=.slice e)(hte:E.ty e=some re)(BD:re.ds=.int .u8)(hd:o.dst=some d)(hn:d<n)
  (hk:∀blk cap (jj:List Value) fz,K ((d,.sl blk s.length cap)::R) ((blk,true,.cells ⟨UA s++jj⟩ e fz)::L)):Or M n H₀ R L o K:=
 .val hd hn fun H tmps hs l8=> by
  unfold execOp;rw[lA];simp only[l8.ev hx];refine aA (convert t u (bA s)) _ ?_;unfold convert;refine aA (underlying t) _ (gA (DF ((E.ok _ _ ht).ds.trans hr)) (aA (underlying u) _ (gA (UC ((E.ok _ _ o5).ds.trans XD)) ?_)));refine aA (underlying e) _ (gA (mL ((E.ok _ _ hte).ds.trans BD)) ?_);show HA P (Conv.stringToBytes e ⟨⟨s⟩⟩) H _;unfold Conv.stringToBytes;refine aA (choose _) _ ?_;intro tt;rw[if_neg (by simp[Question.forced])];generalize (Question.appendCap (ByteArray.mk ⟨s⟩).size 0 e).cut tt=cap;refine aA (newRow e _) _ ?_;have e1:(ByteArray.mk ⟨s⟩).data.map (fun b=> Value.int .u8 (b.toNat:Int))++Array.replicate (cap-(ByteArray.mk ⟨s⟩).size) (Value.int .u8 0)=⟨UA s++List.replicate (cap-s.length) (.int .u8 0)⟩:=by
   apply Array.ext'
   simp[UA]
   rfl
  rw[e1];intro blk tI;refine aA (markStringish ⟨blk,0,none⟩) _ ?_;refine⟨true,_,_,_,View.IB ..,?_⟩;refine⟨Nat.one_ne_zero,_,_,_,View.IB ..,?_⟩;refine⟨_,rfl,_,?_,hk blk cap (List.replicate (cap-s.length) (.int .u8 0)) ?fz⟩;have e2:∀(H:View) (b:Nat) (x y:Bool×Obj),(H.put b x).put b y=H.put b y:=fun H b x y=> by
   funext c
   by_cases h:c=b
   ·subst h;rw[View.IB,View.IB]
   ·rw[View.MA _ _ h,View.MA _ _ h,View.MA _ _ h]
  rw[e2];exact hs.cons _ tI
theorem Or.aCF(i:Nat){cl:Go.Call}{x y:Operand}{t xt e e':TypeId}{m q cap blk off:Nat}{yv:Value}{new c c':List Value}{r re:FA}(lA:o.op=.call cl)(iB:cl.callee=.builtin .copy)(uG:cl.argTypes=#[t,xt])(sI:cl.args=#[x,y])
  (hx:JA R x=some (.slice (some ⟨blk,off,none⟩) q cap)) (hy:JA R y=some yv) (ht:E.ty t=some r) (jC:r.ds=.slice e) (BD:E.ty e=some re) (yE:re.size=1)
  (hi:L[i]? =some (blk,true,.cells ⟨c⟩ e' (0,0))) (eH:∀H,jA H₀ L H->RA H 1 yv m new) (hs:new.all single=true) (hm:m<=q) (hl:off+q<=c.length) (hd:o.dst=some d) (hn:d<n) (hc:wH c off new=c')
  (hk:K ((d,.nt m)::R) (L.set i (blk,true,.cells ⟨c'⟩ e' (0,0)))):Or M n H₀ R L o K:=
 .val hd hn fun H tmps aC hr=> by
  have s8:=eH H aC;unfold execOp;rw[lA];simp only[resolve,iB,uG,sI];have VX:Array.map (OB tmps) #[x,y]=#[.slice (some ⟨blk,off,none⟩) q cap,yv]:=by simp[hr.ev hx,hr.ev hy]
  rw[VX];refine aA (Builtin.copy_ #[t,xt] o.type #[.slice (some ⟨blk,off,none⟩) q cap,yv]) _ ?_;show HA P ((underlying t).bind fun _=> _) H _;refine aA (underlying t) _ (gA (UC ((E.ok _ _ ht).ds.trans jC)) ?_);show HA P ((Builtin.lenOf yv).bind fun _=> _) H _;refine aA (Builtin.lenOf yv) _ (s8.lenOf ?_);show HA P ((sizeOf e).bind fun _=> _) H _;refine aA (sizeOf e) _ (ZA (E.ok _ _ BD).size ?_);have aFy:Nat.min m q=m:=Nat.min_eq_left hm;rw[aFy,yE];refine aA (Builtin.firstCells 1 m yv) _ (cE s8 ?_);show HA P ((storeCells ⟨blk,off,none⟩ new).bind fun _=> Sem.pure (Value.int .i64 (m:Nat))) H _;refine aA _ _ ?_;have hlen:new.length=m:=by have:=s8.2.1;omega
  refine rD blk off new 0 c (aC.get hi) (by simp only[Nat.add_zero];omega) hs fun H' jS=> ?_;by_cases aB:new= []
  ·rw[if_pos aB] at jS;subst jS;have e1:c'=c:=by rw[<-hc,aB,KM]
   rw[e1] at hk;have e2:L.set i (blk,true,.cells ⟨c⟩ e' (0,0))=L:=by
    apply List.ext_getElem?
    intro j;rw[List.getElem?_set];split
    ·rename_i h
     subst h;rw[hi];split
     ·rfl
     ·rename_i h2
      rw[List.getElem?_eq_none oM] at hi;cases hi
    ·rfl
   rw[e2] at hk;exact⟨_,rfl,_,aC,hk⟩
  ·rw[if_neg aB] at jS;rw[jS];refine⟨_,rfl,_,aC.set hi _,?_⟩;rw[show wH c (off+0) new=c' from hc];exact hk
end
end Go.RL
namespace Go.Proofs.YtldmfjcgjdchcaaGreatDoor
open Go.RL Go.Proofs.Tryz
set_option maxRecDepth 10000
set_option maxHeartbeats 16000000
def pn(x:UInt8):Nat:=if x.toNat=48 then 10 else x.toNat-48
theorem D9 {x:UInt8}(h:OC x=true):1<=pn x/\pn x<=10:=by
 have:=of_decide_eq_true h;unfold pn;split <;> omega
def ER(s:By)(i:Nat):Nat:=pn (s[i]?.getD 48)
def slip(s:By)(i m:Nat):By:=s.take i++[RI m]++s.drop (i+1)
def fK(s:By)(i m:Nat):List By:=if 1<=m/\m<=10 then [slip s i m] else []
def bJ(s:By)(i:Nat):List By:=fK s i (ER s i-1)++fK s i (ER s i+1)
def HC(s:By)(i:Nat):List By:=(List.range' i (s.length-i)).flatMap (bJ s)
def jI(s:By):List By:=HC s 0
theorem gK {s:By}{i:Nat}(h:i<s.length):HC s i=bJ s i++HC s (i+1):=by
 unfold HC;rw[show s.length-i=(s.length-(i+1))+1 by omega];rfl
theorem YK {s:By}{i:Nat}(h:s.length<=i):HC s i= []:=by
 unfold HC;rw[show s.length-i=0 by omega];rfl
theorem DR {s x:By}{i:Nat}:x∈HC s i<->∃j,i<=j/\j<s.length/\x∈bJ s j:=by
 unfold HC;simp only[List.mem_flatMap,List.mem_range'_1];constructor
 ·rintro⟨j,h1,h2⟩;exact⟨j,h1.1,oM,h2⟩
 ·rintro⟨j,h1,h2,h3⟩;exact⟨j,⟨h1,oM⟩,h3⟩
def UQ(s:By)(i j:Nat):Nat:=if j=0 then ER s i-1 else ER s i+1
def QE(s:By)(i j:Nat):List By:=(if j=0 then fK s i (ER s i-1) else [])++((if j<=1 then fK s i (ER s i+1) else [])++HC s (i+1))
theorem FR(s:By)(i j:Nat)(h:j<2):QE s i j=fK s i (UQ s i j)++QE s i (j+1):=by
 rcases(by omega:j=0\/j=1) with rfl|rfl
 ·simp[QE,UQ]
 ·simp[QE,UQ]
theorem lU(s:By)(i:Nat):QE s i 2=HC s (i+1):=by simp[QE]
theorem GR {s:By}{i:Nat}(h:i<s.length):HC s i=QE s i 0:=by
 rw[gK h];simp[QE,bJ]
def EW(b:Nat):Value:=.func (.func 221) #[] #[.pt b]
def dL(s:By)(b:Nat)(H:View):Prop:=∃f,H b=some (f,.cells ⟨[bA s]⟩ 9 (0,0))
theorem dL.le {s:By}{b:Nat}(H H':View)(h:H.le H')(c:dL s b H):dL s b H':=c.imp fun _ e=> h _ _ e
theorem nT(s:By)(p:Nat)(hp:p<s.length)(hd:s.all OC=true):∃x,s[p]? =some x/\OC x=true/\Utf8.decode ⟨⟨s⟩⟩ p=(x.toNat,1):=by
 have hx:=List.getElem?_eq_getElem hp;have h1:OC s[p]=true:=List.all_eq_true.1 hd _ (List.getElem_mem hp);refine⟨s[p],hx,h1,?_⟩;obtain⟨z,w,h2,_,y,h3,h4,_⟩:=Z6 s p hp;rw[hx] at h3;cases h3
 have:=of_decide_eq_true h1;obtain⟨rfl,rfl⟩:=h4 oM;exact h2
section
variable(M:Md prog)(H:View)
theorem KQ(x:UInt8)(hx:OC x=true):fA M 44 #[.int .i32 (x.toNat:Nat)] H (Ib H (.int .i64 (pn x:Nat))):=by
 have hd:=of_decide_eq_true hx;by_cases c1:x.toNat=48
 ·have e:pn x=10:=if_pos c1;rw[e,c1];refine .en func44 ntmps44 fun St c cs hK=> ?_;refine AJ ?_;refine .rt hK func44 results44 [_] ?_;exact okB
 ·have e:pn x=x.toNat-48:=if_neg c1;rw[e];have c2:¬((x.toNat:Nat):Int)=48:=by omega
  have w1:iA .sub .i32 ((x.toNat:Nat):Int) 48=some (.int .i32 ((x.toNat-48:Nat):Int)):=by
   have:IntKind.i32.wrap (((x.toNat:Nat):Int)-48)=((x.toNat-48:Nat):Int):=by
    rw[show((x.toNat:Nat):Int)-48=((x.toNat-48:Nat):Int) by omega];exact IntWalk.i32_in _ ⟨oM,oM⟩
   show some (Value.int _ (IntKind.i32.wrap _))=_;rw[this]
  have w2:IntKind.i64.wrap ((x.toNat-48:Nat):Int)=((x.toNat-48:Nat):Int):=wrap64 oM oM;refine .en func44 ntmps44 fun St c cs hK=> ?_;refine XU ?_;refine .rt hK func44 results44 [_] ?_;exact okB
theorem H0(m:Nat)(hm:m<10):fA M 286 #[.nt m] H (Ib H (bA [RI m])):=by
 have e:(([48,49,50,51,52,53,54,55,56,57,97,98,99,100,101,102,103,104,105,106,107,108,109,110,111,112,113,114,115,116,117,118,119,120,121,122]:By).drop ((m:Nat):Int).toNat).take ((((m:Nat):Int)+1).toNat-((m:Nat):Int).toNat)= [RI m]:=by
  rcases(by omega:m=0\/m=1\/m=2\/m=3\/m=4\/m=5\/m=6\/m=7\/m=8\/m=9) with rfl|rfl|rfl|rfl|rfl|rfl|rfl|rfl|rfl|rfl <;> rfl
 have hl:(([48,49,50,51,52,53,54,55,56,57,97,98,99,100,101,102,103,104,105,106,107,108,109,110,111,112,113,114,115,116,117,118,119,120,121,122]:By).length:Nat)=36:=rfl;rw[<-e];refine .en func286 ntmps286 fun St c cs hK=> ?_;refine LI ?_;refine .x (pA.pD (E:=en) (l:= [48,49,50,51,52,53,54,55,56,57,97,98,99,100,101,102,103,104,105,106,107,108,109,110,111,112,113,114,115,116,117,118,119,120,121,122]) rfl rfl rfl rfl rfl rfl oM oM oM) ?_;refine U2 ?_;refine .rt hK func286 results286 [_] ?_;exact okB
theorem QU(m:Nat)(hm:m<10):fA M 240 #[.nt m,.iz 10] H (Ib H (bA [RI m])):=by
 refine .en func240 ntmps240 fun St c cs hK=> ?_;refine U25 ?_;refine .cl (fun H hs=> H0 M H m hm) ?_;refine U2 ?_;refine .rt hK func240 results240 [_] ?_;exact okB
theorem aAH(m:Nat)(hm:m<10):fA M 173 #[.nt m] H (Ib H (bA [RI m])):=by
 refine .en func173 ntmps173 fun St c cs hK=> ?_;refine U7 ?_;refine .cl (fun H hs=> QU M H m hm) ?_;refine U2 ?_;refine .rt hK func173 results173 [_] ?_;exact okB
theorem aCp(m:Nat)(hm:m<10):fA M 93 #[.nt m] H (Ib H (bA [RI m])):=by
 refine .en func93 ntmps93 fun St c cs hK=> ?_;refine U7 ?_;refine .cl (fun H hs=> aAH M H m hm) ?_;refine U2 ?_;refine .rt hK func93 results93 [_] ?_;exact okB
theorem mU(s:By):fA M 134 #[bA s] H (fun v H'=> H.le H'/\∃b,v=EW b/\dL s b H'):=by
 refine .en func134 ntmps134 fun St c cs hK=> ?_;refine U2 ?_;refine .bo fun b1=> ?_;refine U7 ?_;refine .rt hK func134 results134 [_] ?_;exact fun H' hs=> ⟨hs.base,b1,rfl,true,hs.get (i:=0) rfl⟩
theorem VQ(s:By)(BN:s.all OC=true)(rO:s.length<=1000)(b1:Nat)(hC:dL s b1 H):
  TU M (EW b1) (jI s) (fun x (_:Unit)=> [bA x]) (fun _ _=> []) (fun _ _=> []) (dL s b1) [] H:=fun l J D BC h0 hy H₀ fF=> by
 refine WB.of (first:= []) (captured:= [_]) aFa rfl ?_;obtain⟨fa,AV⟩:=hC;refine fA.enter (vs:= [.func (.yield l) #[] #[],.pt b1]) func221 rfl ntmps221 Nb (fF) fun St c cs hK=> ?_;refine U3 ?_;refine .e (Or.hU (E:=en) (s:=⟨⟨s⟩⟩) rfl rfl rfl rfl rfl dE (fun it=> ?_));refine U2 ?_;refine Tc.db (Tc.aK (σ:= { x:Nat×View//x.1<=s.length/\J (HC s x.1) x.2 })
  (fun x=> (x.1.2,[(0,.func (.yield l) #[] #[]),(1,.pt b1),(8,.pt it)],[(it,true,.stringIter ⟨⟨s⟩⟩ x.1.1)])) (fun x=> s.length-x.1.1) ?_ ⟨(0,H),Nat.zero_le _,h0⟩)
 rintro⟨⟨p,H₁⟩,g1,j1⟩ ih₁;simp only at g1 j1;show Tc M St _ _ H₁ _ [(0,.func (.yield l) #[] #[]),(1,.pt b1),(8,.pt it)] [(it,true,.stringIter ⟨⟨s⟩⟩ p)] _ _;by_cases c1:p=s.length
 ·subst c1;rw[YK (Nat.le_refl _)] at j1;have l5:¬s.length<(ByteArray.mk ⟨s⟩).size:=by show ¬s.length<s.length;omega
  refine U2 ?_;refine .e (Or.ZT 0 rfl rfl rfl l5 rfl dE ?_);refine U5 ?_;refine .ov hK func221 results221 [] ?_;exact fun H' hs=> ⟨H₁,hs.base,.inl j1⟩
 ·have c2:p<s.length:=by omega
  obtain⟨x,hx,hdx,MK⟩:=nT s p c2 BN;have hpn:=D9 hdx;have EU:p<(ByteArray.mk ⟨s⟩).size:=c2;have m5:ER s p=pn x:=by unfold ER;rw[hx];rfl
  rw[GR c2] at j1;refine U2 ?_;refine .e (Or.CQ 0 rfl rfl rfl EU MK rfl dE ?_);refine LI ?_;refine .cl (fun H hs=> KQ M H x hdx) ?_;refine U2 ?_;refine .cl (fun H hs=> KQ M H x hdx) ?_;refine U5 ?_;refine Tc.db (Tc.aK (σ:= { y:Nat×View//y.1<=2/\J (QE s p y.1) y.2 })
   (fun y=> (y.1.2,[(0,.func (.yield l) #[] #[]),(1,.pt b1),(3,.nt p),(8,.pt it),(19,.agg ⟨[.iz ((pn x:Nat)-1:Int),.iz ((pn x:Nat)+1:Int)]⟩),(20,.nt y.1.1)],[(it,true,.stringIter ⟨⟨s⟩⟩ (p+1))])) (fun y=> 2-y.1.1) ?_ ⟨(0,H₁),oM,j1⟩)
  rintro⟨⟨j,H₂⟩,g2,j2⟩ ih₂;simp only at g2 j2;show Tc M St _ _ H₂ _ [(0,.func (.yield l) #[] #[]),(1,.pt b1),(3,.nt p),(8,.pt it),(19,.agg ⟨[.iz ((pn x:Nat)-1:Int),.iz ((pn x:Nat)+1:Int)]⟩),(20,.nt j)] [(it,true,.stringIter ⟨⟨s⟩⟩ (p+1))] _ _;by_cases c3:j=2
  ·subst c3;rw[lU] at j2;refine U8 ?_;exact Tc.db (ih₁ ⟨(p+1,H₂),by simp only;omega,j2⟩ Ob)
  ·have c4:j<2:=by omega
   obtain⟨m,hm⟩:∃m,UQ s p j=m:=⟨_,rfl⟩
   have f1:zE false 1 [Value.int .i64 ((pn x:Nat)-1:Int),.iz ((pn x:Nat)+1:Int)] (((j:Nat):Int).toNat*1)=some (.int .i64 (m:Nat)):=by
    rw[<-hm];unfold UQ;rw[m5];rcases(by omega:j=0\/j=1) with rfl|rfl
    ·show some (Value.int .i64 _)=some (Value.int .i64 _)
     congr 2
     simp only[if_pos];omega
    ·show some (Value.int .i64 _)=some (Value.int .i64 _)
     congr 2
   have hmb:m<=11:=by rw[<-hm];unfold UQ;rw[m5];split <;> omega
   rw[FR s p j c4,hm] at j2;obtain⟨fc,hc1⟩:=BC _ _ j2;by_cases c5:1<=((m:Nat):Int)/\((m:Nat):Int)<=10
   ·have e1:fK s p m= [slip s p m]:=if_pos oM;rw[e1] at j2;have a2:iA .rem .i64 (m:Nat) 10=some (.int .i64 ((m%10:Nat):Int)):=by rw[rem_in oM oM];rfl
    have VD:slip s p m∈jI s:=by
     refine DR.2 ⟨p,Nat.zero_le _,c2,?_⟩;have hm2:m=ER s p-1\/m=ER s p+1:=by rw[<-hm];unfold UQ;split <;> simp
     unfold bJ;rcases hm2 with h|h
     ·rw[List.mem_append];exact .inl (by rw[<-h,e1];simp)
     ·rw[List.mem_append];exact .inr (by rw[<-h,e1];simp)
    have e2:(s.drop ((0:Nat):Int).toNat).take (((p:Nat):Int).toNat-((0:Nat):Int).toNat)++[RI (m%10)]++(s.drop (((p:Nat):Int)+1).toNat).take (((s.length:Nat):Int).toNat-(((p:Nat):Int)+1).toNat)=slip s p m:=by
     have e3:(((p:Nat):Int)+1).toNat=p+1:=by omega
     rw[yZ,e3];unfold slip;simp
     exact List.take_of_length_le (by rw[List.length_drop];exact Nat.le_refl _)
    have hlen:(slip s p m).length<=1001:=by
     unfold slip;simp
     omega
    refine ND ?_;refine .x (pA.index (E:=en) rfl rfl rfl rfl rfl rfl oM oM (by assumption)) ?_;refine U3 ?_;refine Tc.drC [] [16] [] mixed rfl ?_;refine .oo 0 ?_;refine Ta.MY 1 kR rfl rfl dE rfl rfl (pA.tk fun H hs=> uA M H (m:Nat) 1 10 true (decide_eq_true c5)) ?_;refine .oo 2 ?_;refine .oo 3 ?_;refine .oo 4 ?_;refine .oo 5 ?_;refine Ta.MY 6 kR rfl rfl dE rfl rfl (pA.take (pA.pD (E:=en) rfl rfl rfl rfl rfl rfl oM oM oM)) ?_;refine .oo 7 ?_;refine .oo 8 ?_;refine Ta.MY 9 kR rfl rfl dE rfl rfl (pA.tk fun H hs=> aCp M H (m%10) (Nat.mod_lt _ dE)) ?_;refine Ta.MY 10 kR rfl rfl dE rfl rfl (pA.take (pA.LB rfl rfl rfl (by exact UB (by simp <;> omega)))) ?_;refine .oo 11 ?_;refine .oo 12 ?_;refine .oo 13 ?_;refine Ta.MY 14 kR rfl rfl dE rfl rfl (pA.take (pA.pD (E:=en) rfl rfl rfl rfl rfl rfl oM oM oM)) ?_;refine Ta.MY 15 kR rfl rfl dE rfl rfl (pA.take (pA.LB rfl rfl rfl (by exact UB (by simp <;> omega)))) ?_;rw[e2];refine Ta.YB 16 kR rfl kR rfl rfl rfl rfl rfl rfl dE (hy (slip s p m) (QE s p (j+1)) () H₂ H₂ VD j2 (jA.nil H₂)) (fun v H₃ hv=> ?_);rcases hv with ⟨rfl,H4,h8,j3⟩|⟨rfl,hD⟩
    ·refine Ta.lower h8.base ?_;refine .ea 17 rfl (Or.uS .nt rfl dE ⟨S3.off kR,?_⟩);refine .ea 18 rfl (Or.uS .pk rfl dE ⟨S3.off kR,?_⟩);refine .dn ?_;refine U7 ?_;exact Tc.db (ih₂ ⟨(j+1,H4),by simp only;omega,j3⟩ Ob)
    ·refine .ea 17 rfl (Or.uS .nt rfl dE ⟨S3.off kR,?_⟩);refine .ea 18 rfl (Or.uS .pk rfl dE ⟨S3.off kR,?_⟩);refine .dn ?_;refine U ?_;refine .rt hK func221 results221 [] ?_;exact fun H' hs=> ⟨H₃,hs.base,.inr hD⟩
   ·have e1:fK s p m= []:=if_neg oM;rw[e1] at j2;refine ND ?_;refine .x (pA.index (E:=en) rfl rfl rfl rfl rfl rfl oM oM (by assumption)) ?_;refine U3 ?_;refine Tc.dr [] [] mixed rfl ?_;refine .nn 0 ?_;refine .z 1 rfl (pA.tk fun H hs=> uA M H (m:Nat) 1 10 false (decide_eq_false c5)) ?_;refine .nn 2 ?_;refine .nw 3 ?_;refine .nw 4 ?_;refine .nw 5 ?_;refine .nw 6 ?_;refine .nw 7 ?_;refine .nw 8 ?_;refine .nw 9 ?_;refine .nw 10 ?_;refine .nw 11 ?_;refine .nw 12 ?_;refine .nw 13 ?_;refine .nw 14 ?_;refine .nw 15 ?_;refine .nw 16 ?_;refine .nw 17 ?_;refine .nn 18 ?_;refine .dn ?_;refine U7 ?_;exact Tc.db (ih₂ ⟨(j+1,H₂),by simp only;omega,j2⟩ Ob)
end
end Go.Proofs.YtldmfjcgjdchcaaGreatDoor
namespace Go.Proofs.YtldmfjcgjdchcaaGreatDoor
open Go.RL Go.Proofs.Tryz
set_option maxRecDepth 10000
def vA(l:List Int)(i:Nat):Int:=l[i]?.getD 0
def GB(l:List Int)(p q:Nat):List Int:=(l.set p (vA l q)).set q (vA l p)
theorem VN(l:List Int)(p q:Nat):(GB l p q).length=l.length:=by simp[GB]
theorem WC {l:List Int}{p q:Nat}(hp:p<l.length)(hq:q<l.length)(r:Nat):vA (GB l p q) r=if r=q then vA l p else if r=p then vA l q else vA l r:=by
 unfold GB vA;rw[List.getElem?_set];by_cases h1:q=r
 ·subst h1;rw[if_pos rfl,if_pos (by rw[List.length_set];exact hq),if_pos rfl];rfl
 ·rw[if_neg h1,if_neg (fun h=> h1 h.symm),List.getElem?_set];by_cases h2:p=r
  ·subst h2;rw[if_pos rfl,if_pos hp,if_pos rfl];rfl
  ·rw[if_neg h2,if_neg (fun h=> h2 h.symm)]
theorem HW {l:List Int}{p q:Nat}(hp:p<l.length)(hq:q<l.length)(x:Int):(GB l p q).count x=l.count x:=by
 unfold GB vA;rw[List.getElem?_eq_getElem hp,List.getElem?_eq_getElem hq];simp only[Option.getD_some];rw[List.count_set (by rw[List.length_set];exact hq),List.count_set hp,List.getElem_set];have h1:∀ {i:Nat} (h:i<l.length),l[i]=x->0<l.count x:=fun h e=> List.count_pos_iff.2 (e▸List.getElem_mem h);by_cases e:p=q
 ·subst e;simp only[if_true];by_cases e2:l[p]=x
  ·have:=h1 hp e2;simp only[e2,beq_self_eq_true,if_true];omega
  ·have e3:(l[p]==x)=false:=by simpa using e2
   simp only[e3,Bool.false_eq_true,if_false];omega
 ·simp only[if_neg e];by_cases e2:l[p]=x <;> by_cases e3:l[q]=x
  ·have:=h1 hp e2;simp only[e2,e3,beq_self_eq_true,if_true];omega
  ·have e4:(l[q]==x)=false:=by simpa using e3
   have:=h1 hp e2;simp only[e2,e4,beq_self_eq_true,if_true,Bool.false_eq_true,if_false];omega
  ·have e4:(l[p]==x)=false:=by simpa using e2
   have:=h1 hq e3;simp only[e3,e4,beq_self_eq_true,if_true,Bool.false_eq_true,if_false];omega
  ·have e4:(l[p]==x)=false:=by simpa using e2
   have e5:(l[q]==x)=false:=by simpa using e3
   simp only[e4,e5,Bool.false_eq_true,if_false];omega
structure nA(a b:Nat)(l m:List Int):Prop where
 len:m.length=l.length
 cnt:∀x,m.count x=l.count x
 out:∀i,i<a\/b<=i->vA m i=vA l i
theorem nA.refl(a b:Nat)(l:List Int):nA a b l l:=⟨rfl,fun _=> rfl,fun _ _=> rfl⟩
theorem nA.trans {a b:Nat}{l m n:List Int}(h:nA a b l m)(k:nA a b m n):nA a b l n:=⟨k.len.trans h.len,fun x=> (k.cnt x).trans (h.cnt x),fun i hi=> (k.out i hi).trans (h.out i hi)⟩
theorem nA.wide {a b a' b':Nat}{l m:List Int}(h:nA a b l m)(h1:a'<=a)(h2:b<=b'):nA a' b' l m:=⟨h.len,h.cnt,fun i hi=> h.out i oM⟩
theorem nA.swap {a b:Nat}{l:List Int}{p q:Nat}(hp:p<l.length)(hq:q<l.length)(h1:a<=p/\p<b)(h2:a<=q/\q<b):nA a b l (GB l p q):=
 ⟨VN ..,HW hp hq,fun i hi=> by rw[WC hp hq,if_neg oM,if_neg oM]⟩
def AF(a b:Nat)(l:List Int):Prop:=∀p q,a<=p->p<q->q<b->vA l p<=vA l q
theorem nA.mem {a b:Nat}{l m:List Int}(h:nA a b l m)(x:Int):x∈m<->x∈l:=by
 rw[<-List.count_pos_iff,<-List.count_pos_iff,h.cnt x]
theorem tA {l:List Int}{p:Nat}(h:p<l.length):vA l p∈l:=by
 unfold vA;rw[List.getElem?_eq_getElem h];exact List.getElem_mem h
set_option maxHeartbeats 8000000
theorem I0(l:List Value)(i:Nat)(v:Value)(h:i<l.length):wH l i [v]=l.set i v:=by
 unfold wH;rw[List.set_eq_take_append_cons_drop,if_pos h];simp
def rA(dec:Int->By)(m:List Int):List Value:=m.map fun x=> bA (dec x)
theorem kC(dec:Int->By)(m:List Int):(rA dec m).length=m.length:=by simp[rA]
def MO(dec:Int->By)(l:List Int):Prop:=∀x∈l,∀y∈l,Op.bytesLess (dec x) (dec y)=decide (x<y)
theorem MO.JD {dec:Int->By}{l m:List Int}{a b:Nat}(h:MO dec l)(t:nA a b l m):MO dec m:=fun x hx y hy=> h x ((t.mem x).1 hx) y ((t.mem y).1 hy)
theorem OG {H₀ H H':View}{L:Bl}(h:jA H₀ L H){i sb:Nat}{x y:Bool×Obj}(hi:L[i]? =some (sb,x))(h1:∀b z,b≠sb->H b=some z->H' b=some z)(h2:H' sb=some y):jA H₀ (L.set i (sb,y)) H':=
 (h.set hi y).mono fun b z hb=> by
  by_cases e:b=sb
  ·subst e;rw[View.IB] at hb;rw[h2,hb]
  ·rw[View.MA _ _ e] at hb;exact h1 b z e hb
def xB(dec:Int->By)(H:View)(sb:Nat)(j:List Value)(P:Value->List Int->Prop)(v:Value)(H':View):Prop:=
 (∀b x,b≠sb->H b=some x->H' b=some x)/\∃m,P v m/\H' sb=some (true,.cells ⟨(rA dec m)++j⟩ 9 (0,0))
theorem xB.of {dec:Int->By}{H H':View}{sb:Nat}{j:List Value}{P:Value->List Int->Prop}{v:Value}{L:Bl}{m:List Int}(hs:jA (H.uE sb) L H'){i:Nat}(hi:L[i]? =some (sb,true,.cells ⟨(rA dec m)++j⟩ 9 (0,0)))(hP:P v m):xB dec H sb j P v H':=
 ⟨fun b x hb hx=> hs.base b x (by rw[nB hb];exact hx),m,hP,hs.get hi⟩
theorem Or.vF {dec:Int->By}{M:Md prog}{n:Nat}{H₀:View}{R:Rg}{L:Bl}{o:Oper}{K:Rg->Bl->Prop}{cl:Go.Call}{x:Operand}{fv:Value}{az:List Value}{d:Nat}(i:Nat){sb:Nat}{l:List Int}{j:List Value}(P:Value->List Int->Prop)
  (lA:o.op=.call cl) (iB:cl.callee=.value x) (hx:JA R x=some fv) (has:lD R cl.args.toList=some az) (hd:o.dst=some d) (hn:d<n) (hi:L[i]? =some (sb,true,.cells ⟨(rA dec l)++j⟩ 9 (0,0)))
  (hc:∀H,jA H₀ L H->WB M fv az H (xB dec H sb j P)) (hk:∀v m,P v m->K ((d,v)::R) (L.set i (sb,true,.cells ⟨(rA dec m)++j⟩ 9 (0,0)))):Or M n H₀ R L o K:=
 .IP lA iB hx has (Q:=fun H v H'=> xB dec H sb j P v H') hc fun H v H' hs ⟨h1,m,h2,h3⟩=>
  ⟨_,_,OG hs hi h1 h3,by rw[hd];exact⟨hn,rfl⟩,hk v m h2⟩
theorem sA {dec:Int->By}{m:List Int}{j:List Value}{k:Int}{p:Nat}(hk:k=(p:Nat))(hp:p<m.length):zE false 1 ((rA dec m)++j) (0+k.toNat*1)=some (bA (dec (vA m p))):=by
 subst hk;show((rA dec m)++j)[0+(p:Int).toNat*1]? =_;rw[Nat.zero_add,Nat.mul_one,Int.toNat_natCast,List.getElem?_append_left (by rw[kC];exact hp)];unfold rA vA;rw[List.getElem?_map,List.getElem?_eq_getElem hp];rfl
theorem EA {dec:Int->By}{m:List Int}{j:List Value}{k x:Int}{p:Nat}(hk:k=(p:Nat))(hp:p<m.length):wH ((rA dec m)++j) (0+k.toNat*1) [bA (dec (x))]=(rA dec (m.set p x))++j:=by
 subst hk;rw[Nat.zero_add,Nat.mul_one,Int.toNat_natCast,I0 _ _ _ (by rw[List.length_append,kC];omega),List.set_append_left _ _ (by rw[kC];exact hp)];unfold rA;rw[List.map_set]
theorem CA {dec:Int->By}{m:List Int}{j:List Value}{k:Int}{p:Nat}(hk:k=(p:Nat))(hp:p<m.length):Nat.ble (0+k.toNat*1+1) ((rA dec m)++j).length=true:=by
 subst hk;rw[Nat.ble_eq,List.length_append,kC,Int.toNat_natCast];omega
section
variable(M:Md prog)(H:View)
theorem D8(s:By):fA M 306 #[bA s] H (Ib H (.bool false)):=by
 refine .en func306 ntmps306 fun St c cs hK=> ?_;refine ND ?_;refine .rt hK func306 results306 [_] ?_;exact fun H' hs=> ⟨hs.base,by simp[gF]⟩
theorem aAK(s p:By):fA M 262 #[bA s,bA p] H (Ib H (.bool (Op.bytesLess s p))):=by
 refine .en func262 ntmps262 fun St c cs hK=> ?_;refine U7 ?_;refine .cl (fun H hs=> D8 M H s) ?_;refine uH ?_;refine .rt hK func262 results262 [_] ?_;exact okB
theorem CC {dec:Int->By}{l:List Int}(hE:MO dec l){x y:Int}(hx:x∈l)(hy:y∈l)(t:Bool)(ht:decide (x<y)=t):fA M 262 #[bA (dec x),bA (dec y)] H (Ib H (.bool t)):=
 tH (aAK M H (dec x) (dec y)) ((hE x hx y hy).trans ht)
end
theorem OT {m:List Int}{a i j:Nat}(hg:∀p q,a<=p->p<q->q<=i->q≠j->vA m p<=vA m q)(hj:a<j)(hle:¬vA m j<vA m (j-1)):AF a (i+1) m:=fun p q h1 h2 h3=> by
 by_cases e:q=j
 ·subst e;have h4:vA m p<=vA m (q-1):=by
   by_cases e2:p=q-1
   ·rw[e2];exact Int.le_refl _
   ·exact hg p (q-1) h1 oM oM oM
  omega
 ·exact hg p q h1 h2 oM e
theorem mQ {m:List Int}{a i j:Nat}(hi:i<m.length)(DJ:j<=i)(hg:∀p q,a<=p->p<q->q<=i->q≠j->vA m p<=vA m q)(hj:a<j)(KB:vA m j<vA m (j-1)):
  ∀p q,a<=p->p<q->q<=i->q≠j-1->vA (GB m j (j-1)) p<=vA (GB m j (j-1)) q:=fun p q h1 h2 h3 h4=> by
 rw[WC oM oM,WC oM oM,if_neg h4];by_cases e:q=j
 ·rw[if_pos e];by_cases e2:p=j-1
  ·rw[if_pos e2];omega
  ·rw[if_neg e2,if_neg oM];exact hg p (j-1) h1 oM oM oM
 ·rw[if_neg e];by_cases e2:p=j-1
  ·rw[if_pos e2];exact hg j q oM oM h3 e
  ·rw[if_neg e2];by_cases e3:p=j
   ·rw[if_pos e3];exact hg (j-1) q oM oM h3 e
   ·rw[if_neg e3];exact hg p q h1 h2 h3 e
section
variable(M:Md prog)(H:View)
theorem rM(dec:Int->By)(sb:Nat)(l:List Int)(jj:List Value)(n cap a b:Nat)(hn:n=l.length)(hE:MO dec l)(hb:b<=n)(gG:n<=100000000)(ha:a<=n)(hS:H sb=some (true,.cells ⟨(rA dec l)++jj⟩ 9 (0,0))):
  fA M 256 #[.sl sb n cap,.nt a,.nt b] H (xB dec H sb jj (fun v m=> v=.tuple ⟨[]⟩/\nA a b l m/\AF a b m)):=by
 refine fA.enter (vs:= [.sl sb n cap,.nt a,.nt b]) func256 rfl ntmps256 Nb (jA.pull hS) fun St c cs hK=> ?_;have ha1:iA .add .i64 (a:Nat) 1=some (.int .i64 ((a+1:Nat):Int)):=by rw[pB oM oM];rfl
 refine U7 ?_;refine Tc.db (Tc.qA (σ:= { s:Nat×List Int//a+1<=s.1/\(s.1<=b\/s.1=a+1)/\nA a b l s.2/\AF a s.1 s.2 }) (fun s=> ([(0,.sl sb n cap),(1,.nt a),(2,.nt b),(6,.nt s.1.1)],[Bb sb ((rA dec s.1.2)++jj) 9])) (fun s=> b-s.1.1) ?_
  ⟨(a+1,l),by simp,by simp,nA.refl ..,fun p q h1 h2 h3=> by omega⟩)
 rintro⟨⟨i,m⟩,g1,g2,g3,g4⟩ ih;simp only at g1 g2 g3 g4;dsimp only;by_cases c1:i<b
 ·have jQ:=g3.len;have hi1:iA .add .i64 (i:Nat) 1=some (.int .i64 ((i+1:Nat):Int)):=by rw[pB oM oM];rfl
  refine II ?_;refine Tc.db (Tc.qA (σ:= { s:Nat×List Int//a<=s.1/\s.1<=i/\nA a b l s.2/\∀p q,a<=p->p<q->q<=i->q≠s.1->vA s.2 p<=vA s.2 q }) (fun s=> ([(0,.sl sb n cap),(1,.nt a),(2,.nt b),(6,.nt i),(7,.nt s.1.1)],[Bb sb ((rA dec s.1.2)++jj) 9])) (fun s=> s.1.1) ?_
   ⟨(i,m),by simp only;omega,by simp only;omega,g3,fun p q h1 h2 h3 h4=> g4 p q h1 h2 (by simp only at h4;omega)⟩)
  rintro⟨⟨j,u⟩,f1,f2,f3,f4⟩ ih2;simp only at f1 f2 f3 f4;have uO:=f3.len;have BK:=hE.JD f3;show Tc M St _ _ _ _ [(0,.sl sb n cap),(1,.nt a),(2,.nt b),(6,.nt i),(7,.nt j)] [Bb sb ((rA dec u)++jj) 9] _ _;by_cases c2:a<j
  ·have e1:((j:Nat):Int)-1=((j-1:Nat):Int):=by omega
   have k1:=sA (dec:=dec) (m:=u) (j:=jj) (k:=(j:Nat)) (p:=j) rfl oM;have k2:=sA (dec:=dec) (m:=u) (j:=jj) (k:=(j:Nat)-1) (p:=j-1) e1 oM;by_cases c3:vA u j<vA u (j-1)
   ·have s1:=EA (dec:=dec) (m:=u) (j:=jj) (k:=(j:Nat)) (x:=vA u (j-1)) (p:=j) rfl oM;have s2:=EA (dec:=dec) (m:=u.set j (vA u (j-1))) (j:=jj) (k:=(j:Nat)-1) (x:=vA u j) (p:=j-1) e1 (by rw[List.length_set];omega);have l1:=CA (dec:=dec) (m:=u) (j:=jj) (k:=(j:Nat)) (p:=j) rfl oM;have l2:=CA (dec:=dec) (m:=u.set j (vA u (j-1))) (j:=jj) (k:=(j:Nat)-1) (p:=j-1) e1 (by rw[List.length_set];omega);refine U2 ?_;refine Tc.dr [] [] mixed rfl ?_;refine V13 0 ?_;refine .z 13 rfl (pA.tk fun H hs=> CC M H BK (tA oM) (tA oM) true (decide_eq_true c3)) ?_;refine .nn 14 ?_;refine .dn ?_;refine U4 ?_;refine Tc.dr [15,17] [0] mixed rfl ?_;refine V2 0 ?_;refine .nw 2 ?_;refine .nw 3 ?_;refine .nw 4 ?_;refine V5 5 ?_;refine .nw 10 ?_;refine .nw 11 ?_;refine .nw 12 ?_;refine V2 13 ?_;refine .e 15 0 ?_;refine .nw 16 ?_;refine .e 17 0 ?_;refine .dn ?_;refine U6 ?_;rw[e1];exact Tc.db (ih2 ⟨(j-1,GB u j (j-1)),by simp only;omega,by simp only;omega,f3.trans (nA.swap oM oM oM oM),mQ oM f2 f4 c2 c3⟩ Ob)
   ·refine U2 ?_;refine Tc.dr [] [] mixed rfl ?_;refine V13 0 ?_;refine .z 13 rfl (pA.tk fun H hs=> CC M H BK (tA oM) (tA oM) false (decide_eq_false c3)) ?_;refine .nn 14 ?_;refine .dn ?_;refine U8 ?_;exact Tc.db (ih ⟨(i+1,u),by simp only;omega,by simp only;omega,f3,OT f4 c2 c3⟩ Ob)
  ·refine U2 ?_;refine Tc.dr [] [] mixed rfl ?_;refine V4 0 ?_;refine .nw 4 ?_;refine .nw 5 ?_;refine .nw 6 ?_;refine .nw 7 ?_;refine .nw 8 ?_;refine .nw 9 ?_;refine .nw 10 ?_;refine .nw 11 ?_;refine .nw 12 ?_;refine .nw 13 ?_;refine .nn 14 ?_;refine .dn ?_;refine U8 ?_;exact Tc.db (ih ⟨(i+1,u),by simp only;omega,by simp only;omega,f3,fun p q h1 h2 h3=> f4 p q h1 h2 oM oM⟩ Ob)
 ·refine U9 ?_;refine .ov hK func256 results256 [] ?_;exact fun H' hs=> xB.of hs (i:=0) rfl ⟨rfl,g3,fun p q h1 h2 h3=> g4 p q h1 h2 oM⟩
end
def SA(m:List Int):List Value:=m.map fun x=> .int .i64 x
theorem rC(m:List Int):(SA m).length=m.length:=by simp[SA]
def FD(H:View)(sb:Nat)(j:List Value)(P:Value->List Int->Prop)(v:Value)(H':View):Prop:=
 (∀b x,b≠sb->H b=some x->H' b=some x)/\∃m,P v m/\H' sb=some (true,.cells ⟨(SA m)++j⟩ 3 (0,0))
theorem FD.of {H H':View}{sb:Nat}{j:List Value}{P:Value->List Int->Prop}{v:Value}{L:Bl}{m:List Int}(hs:jA (H.uE sb) L H'){i:Nat}(hi:L[i]? =some (sb,true,.cells ⟨(SA m)++j⟩ 3 (0,0)))(hP:P v m):FD H sb j P v H':=
 ⟨fun b x hb hx=> hs.base b x (by rw[nB hb];exact hx),m,hP,hs.get hi⟩
theorem Or.nU {M:Md prog}{n:Nat}{H₀:View}{R:Rg}{L:Bl}{o:Oper}{K:Rg->Bl->Prop}{cl:Go.Call}{x:Operand}{fv:Value}{az:List Value}{d:Nat}(i:Nat){sb:Nat}{l:List Int}{j:List Value}(P:Value->List Int->Prop)
  (lA:o.op=.call cl) (iB:cl.callee=.value x) (hx:JA R x=some fv) (has:lD R cl.args.toList=some az) (hd:o.dst=some d) (hn:d<n) (hi:L[i]? =some (sb,true,.cells ⟨(SA l)++j⟩ 3 (0,0)))
  (hc:∀H,jA H₀ L H->WB M fv az H (FD H sb j P)) (hk:∀v m,P v m->K ((d,v)::R) (L.set i (sb,true,.cells ⟨(SA m)++j⟩ 3 (0,0)))):Or M n H₀ R L o K:=
 .IP lA iB hx has (Q:=fun H v H'=> FD H sb j P v H') hc fun H v H' hs ⟨h1,m,h2,h3⟩=>
  ⟨_,_,OG hs hi h1 h3,by rw[hd];exact⟨hn,rfl⟩,hk v m h2⟩
theorem nN {m:List Int}{j:List Value}{k:Int}{p:Nat}(hk:k=(p:Nat))(hp:p<m.length):zE false 1 ((SA m)++j) (0+k.toNat*1)=some (.int .i64 (vA m p)):=by
 subst hk;show((SA m)++j)[0+(p:Int).toNat*1]? =_;rw[Nat.zero_add,Nat.mul_one,Int.toNat_natCast,List.getElem?_append_left (by rw[rC];exact hp)];unfold SA vA;rw[List.getElem?_map,List.getElem?_eq_getElem hp];rfl
theorem pN {m:List Int}{j:List Value}{k x:Int}{p:Nat}(hk:k=(p:Nat))(hp:p<m.length):wH ((SA m)++j) (0+k.toNat*1) [.iz (x)]=(SA (m.set p x))++j:=by
 subst hk;rw[Nat.zero_add,Nat.mul_one,Int.toNat_natCast,I0 _ _ _ (by rw[List.length_append,rC];omega),List.set_append_left _ _ (by rw[rC];exact hp)];unfold SA;rw[List.map_set]
theorem oN {m:List Int}{j:List Value}{k:Int}{p:Nat}(hk:k=(p:Nat))(hp:p<m.length):Nat.ble (0+k.toNat*1+1) ((SA m)++j).length=true:=by
 subst hk;rw[Nat.ble_eq,List.length_append,rC,Int.toNat_natCast];omega
section
variable(M:Md prog)(H:View)
theorem WV(s:Int):fA M 310 #[.iz s] H (Ib H (.bool false)):=by
 refine .en func310 ntmps310 fun St c cs hK=> ?_;refine ND ?_;refine .rt hK func310 results310 [_] ?_;exact okB
theorem bZ(a b:Int)(t:Bool)(ht:decide (a<b)=t):fA M 278 #[.iz a,.iz b] H (Ib H (.bool t)):=by
 rw[<-ht];refine .en func278 ntmps278 fun St c cs hK=> ?_;by_cases c1:a<b
 ·have e:decide (a<b)=true:=decide_eq_true c1;rw[e] at hK;refine U7 ?_;refine .cl (fun H hs=> WV M H a) ?_;refine uH ?_;refine .rt hK func278 results278 [_] ?_;exact okB
 ·have e:decide (a<b)=false:=decide_eq_false c1;rw[e] at hK;refine U7 ?_;refine .cl (fun H hs=> WV M H a) ?_;refine uH ?_;refine .rt hK func278 results278 [_] ?_;exact okB
end
section
variable(M:Md prog)(H:View)
theorem PT(sb:Nat)(l:List Int)(jj:List Value)(n cap a b:Nat)(hn:n=l.length)(hb:b<=n)(gG:n<=1000000)(ha:a<=n)(hS:H sb=some (true,.cells ⟨(SA l)++jj⟩ 3 (0,0))):
  fA M 272 #[.sl sb n cap,.nt a,.nt b] H (FD H sb jj (fun v m=> v=.tuple ⟨[]⟩/\nA a b l m/\AF a b m)):=by
 refine fA.enter (vs:= [.sl sb n cap,.nt a,.nt b]) func272 rfl ntmps272 Nb (jA.pull hS) fun St c cs hK=> ?_;have ha1:iA .add .i64 (a:Nat) 1=some (.int .i64 ((a+1:Nat):Int)):=by rw[pB oM oM];rfl
 refine U7 ?_;refine Tc.db (Tc.qA (σ:= { s:Nat×List Int//a+1<=s.1/\(s.1<=b\/s.1=a+1)/\nA a b l s.2/\AF a s.1 s.2 }) (fun s=> ([(0,.sl sb n cap),(1,.nt a),(2,.nt b),(6,.nt s.1.1)],[Bb sb ((SA s.1.2)++jj) 3])) (fun s=> b-s.1.1) ?_
  ⟨(a+1,l),by simp,by simp,nA.refl ..,fun p q h1 h2 h3=> by omega⟩)
 rintro⟨⟨i,m⟩,g1,g2,g3,g4⟩ ih;simp only at g1 g2 g3 g4;dsimp only;by_cases c1:i<b
 ·have jQ:=g3.len;have hi1:iA .add .i64 (i:Nat) 1=some (.int .i64 ((i+1:Nat):Int)):=by rw[pB oM oM];rfl
  refine II ?_;refine Tc.db (Tc.qA (σ:= { s:Nat×List Int//a<=s.1/\s.1<=i/\nA a b l s.2/\∀p q,a<=p->p<q->q<=i->q≠s.1->vA s.2 p<=vA s.2 q }) (fun s=> ([(0,.sl sb n cap),(1,.nt a),(2,.nt b),(6,.nt i),(7,.nt s.1.1)],[Bb sb ((SA s.1.2)++jj) 3])) (fun s=> s.1.1) ?_
   ⟨(i,m),by simp only;omega,by simp only;omega,g3,fun p q h1 h2 h3 h4=> g4 p q h1 h2 (by simp only at h4;omega)⟩)
  rintro⟨⟨j,u⟩,f1,f2,f3,f4⟩ ih2;simp only at f1 f2 f3 f4;have uO:=f3.len
   
  show Tc M St _ _ _ _ [(0,.sl sb n cap),(1,.nt a),(2,.nt b),(6,.nt i),(7,.nt j)] [Bb sb ((SA u)++jj) 3] _ _;by_cases c2:a<j
  ·have e1:((j:Nat):Int)-1=((j-1:Nat):Int):=by omega
   have k1:=nN (m:=u) (j:=jj) (k:=(j:Nat)) (p:=j) rfl oM;have k2:=nN (m:=u) (j:=jj) (k:=(j:Nat)-1) (p:=j-1) e1 oM;by_cases c3:vA u j<vA u (j-1)
   ·have s1:=pN (m:=u) (j:=jj) (k:=(j:Nat)) (x:=vA u (j-1)) (p:=j) rfl oM;have s2:=pN (m:=u.set j (vA u (j-1))) (j:=jj) (k:=(j:Nat)-1) (x:=vA u j) (p:=j-1) e1 (by rw[List.length_set];omega);have l1:=oN (m:=u) (j:=jj) (k:=(j:Nat)) (p:=j) rfl oM;have l2:=oN (m:=u.set j (vA u (j-1))) (j:=jj) (k:=(j:Nat)-1) (p:=j-1) e1 (by rw[List.length_set];omega);refine U2 ?_;refine Tc.dr [] [] mixed rfl ?_;refine V13 0 ?_;refine .z 13 rfl (pA.tk fun H hs=> bZ M H (vA u j) (vA u (j-1)) true (decide_eq_true c3)) ?_;refine .nn 14 ?_;refine .dn ?_;refine U4 ?_;refine Tc.dr [15,17] [0] mixed rfl ?_;refine V2 0 ?_;refine .nw 2 ?_;refine .nw 3 ?_;refine .nw 4 ?_;refine V5 5 ?_;refine .nw 10 ?_;refine .nw 11 ?_;refine .nw 12 ?_;refine V2 13 ?_;refine .e 15 0 ?_;refine .nw 16 ?_;refine .e 17 0 ?_;refine .dn ?_;refine U6 ?_;rw[e1];exact Tc.db (ih2 ⟨(j-1,GB u j (j-1)),by simp only;omega,by simp only;omega,f3.trans (nA.swap oM oM oM oM),mQ oM f2 f4 c2 c3⟩ Ob)
   ·refine U2 ?_;refine Tc.dr [] [] mixed rfl ?_;refine V13 0 ?_;refine .z 13 rfl (pA.tk fun H hs=> bZ M H (vA u j) (vA u (j-1)) false (decide_eq_false c3)) ?_;refine .nn 14 ?_;refine .dn ?_;refine U8 ?_;exact Tc.db (ih ⟨(i+1,u),by simp only;omega,by simp only;omega,f3,OT f4 c2 c3⟩ Ob)
  ·refine U2 ?_;refine Tc.dr [] [] mixed rfl ?_;refine V4 0 ?_;refine .nw 4 ?_;refine .nw 5 ?_;refine .nw 6 ?_;refine .nw 7 ?_;refine .nw 8 ?_;refine .nw 9 ?_;refine .nw 10 ?_;refine .nw 11 ?_;refine .nw 12 ?_;refine .nw 13 ?_;refine .nn 14 ?_;refine .dn ?_;refine U8 ?_;exact Tc.db (ih ⟨(i+1,u),by simp only;omega,by simp only;omega,f3,fun p q h1 h2 h3=> f4 p q h1 h2 oM oM⟩ Ob)
 ·refine U9 ?_;refine .ov hK func272 results272 [] ?_;exact fun H' hs=> FD.of hs (i:=0) rfl ⟨rfl,g3,fun p q h1 h2 h3=> g4 p q h1 h2 oM⟩
end
end Go.Proofs.YtldmfjcgjdchcaaGreatDoor
namespace Go.RL
open Go.Conc
section
variable {P:Program}{E:Env P}{M:Md P}{n:Nat}{H₀:View}{R:Rg}{L:Bl}{o:Oper}{K:Rg->Bl->Prop}
theorem Or.clear(i:Nat){cl:Go.Call}{x:Operand}{t e e':TypeId}{q cap blk off:Nat}{z:Value}{c c':List Value}{r re:FA}(lA:o.op=.call cl)(iB:cl.callee=.builtin .clear)(uG:cl.argTypes=#[t])(sI:cl.args=#[x])
  (hx:JA R x=some (.slice (some ⟨blk,off,none⟩) q cap)) (ht:E.ty t=some r) (jC:r.ds=.slice e) (BD:E.ty e=some re) (hz:re.zero.cells.toList= [z]) (hz1:single z=true)
  (hi:L[i]? =some (blk,true,.cells ⟨c⟩ e' (0,0))) (hq:q≠0) (hl:off+q<=c.length) (hd:o.dst=none) (hc:wH c off (List.replicate q z)=c')
  (hk:K R (L.set i (blk,true,.cells ⟨c'⟩ e' (0,0)))):Or M n H₀ R L o K:=fun H tmps aC hr=> by
 unfold pF;unfold execOp;rw[lA];simp only[resolve,iB,uG,sI];have VX:Array.map (OB tmps) #[x]=#[.slice (some ⟨blk,off,none⟩) q cap]:=by simp[hr.ev hx]
 rw[VX];obtain⟨q',rfl⟩:∃q',q=q'+1:=⟨q-1,oM⟩
 refine aA (Builtin.clear_ #[t] o.type #[.slice (some ⟨blk,off,none⟩) (q'+1) cap]) _ ?_;show HA P ((underlying t).bind fun _=> _) H _;refine aA (underlying t) _ (gA (UC ((E.ok _ _ ht).ds.trans jC)) ?_);show HA P ((zeroValue e).bind fun z=> (storeCells ⟨blk,off,none⟩ (Builtin.zeroCells z.cells (q'+1)).toList).bind fun _=> Sem.pure (Value.tuple #[])) H _;refine aA (zeroValue e) _ (oC (E.ok _ _ BD).zero ?_);have hzc:(Builtin.zeroCells re.zero.cells (q'+1)).toList=List.replicate (q'+1) z:=by
  have yE:re.zero.cells.size=1:=by
   have:=congrArg List.length hz;simpa using this
  rw[eJ,hz,sK,yE,Nat.mul_one]
 rw[hzc];refine aA (storeCells _ _) _ ?_;refine rD blk _ (List.replicate (q'+1) z) 0 c (aC.get hi) (by simp only[List.length_replicate,Nat.add_zero];omega) (by rw[List.all_eq_true];intro y hy;rw[List.eq_of_mem_replicate hy];exact hz1) fun H' jS=> ?_;rw[if_neg (by simp)] at jS;rw[jS];refine⟨R,_,?_,aC.set hi _,?_⟩
 ·rw[hd];exact hr
 ·rw[show wH c (off+0) (List.replicate (q'+1) z)=c' from hc];exact hk
end
end Go.RL
namespace Go.Proofs.YtldmfjcgjdchcaaGreatDoor
open Go.RL Go.Proofs.Tryz
set_option maxRecDepth 10000
set_option maxHeartbeats 8000000
def AB(l:List Int):Nat->List Int
 | 0=> []
 | k+1=> if 1<=k/\vA l k=vA l (k-1) then AB l k else AB l k++[vA l k]
theorem mT(l:List Int):∀k,(AB l k).length<=k
 | 0=> Nat.le_refl _
 | k+1=> by
  have:=mT l k;unfold AB;split
  ·omega
  ·rw[List.length_append,List.length_cons,List.length_nil];omega
theorem QM {l:List Int}{k:Nat}(h:k<l.length):l.take (k+1)=l.take k++[vA l k]:=by
 unfold vA;rw[List.take_succ_eq_append_getElem h,List.getElem?_eq_getElem h];rfl
theorem FO {u:List Int}{w:Nat}{x:Int}(h:w<u.length):(u.set w x).take (w+1)=u.take w++[x]:=by
 rw[List.take_succ_eq_append_getElem (by rw[List.length_set];exact h),List.take_set_of_le (Nat.le_refl _),List.getElem_set_self]
theorem mZ {u:List Int}{w p:Nat}{x:Int}(h:w≠p):vA (u.set w x) p=vA u p:=by
 unfold vA;rw[List.getElem?_set_ne h]
theorem yI:∀s:By,Op.bytesLess s s=false
 | []=> rfl
 | a::t=> by
  show(decide (a<a)||(a==a&&Op.bytesLess t t))=false;rw[yI t];have:¬a<a:=UInt8.lt_irrefl a;simp[this]
theorem MO.inj {dec:Int->By}{l:List Int}(h:MO dec l){x y:Int}(hx:x∈l)(hy:y∈l)(e:dec x=dec y):x=y:=by
 have h1:=h x hx y hy;have h2:=h y hy x hx;rw[e,yI] at h1;rw[e,yI] at h2;have h3:=of_decide_eq_false h1.symm;have h4:=of_decide_eq_false h2.symm;omega
theorem xK {dec:Int->By}{m:List Int}{j:List Value}{k:Int}{o p:Nat}(hk:o+k.toNat*1=p)(hp:p<m.length):zE false 1 ((rA dec m)++j) (o+k.toNat*1)=some (bA (dec (vA m p))):=by
 rw[hk];have:=sA (dec:=dec) (m:=m) (j:=j) (k:=(p:Nat)) (p:=p) rfl hp;rw[Int.toNat_natCast,Nat.zero_add,Nat.mul_one] at this;exact this
def E5(dec:Int->By)(H:View)(sb:Nat)(l:List Int)(jj:List Value)(n cap:Nat)(v:Value)(H':View):Prop:=
 (∀b x,b≠sb->H b=some x->H' b=some x)/\∃rest,v=.slice (some ⟨sb,0,none⟩) (AB l n).length cap/\(AB l n).length+rest.length=n+jj.length/\H' sb=some (true,.cells ⟨(rA dec (AB l n))++rest⟩ 9 (0,0))
section
variable(M:Md prog)(H:View)
theorem fX(dec:Int->By)(sb:Nat)(l:List Int)(jj:List Value)(n cap:Nat)(hn:n=l.length)(hE:MO dec l)(gG:n<=100000000)(BC:n<=cap)(hS:H sb=some (true,.cells ⟨(rA dec l)++jj⟩ 9 (0,0))):
  fA M 121 #[.sl sb n cap] H (E5 dec H sb l jj n cap):=by
 by_cases c0:n<2
 ·have e:AB l n=l:=by
   rcases(by omega:n=0\/n=1) with h|h
   ·have:l= []:=List.eq_nil_of_length_eq_zero oM;rw[h,this];rfl
   ·rw[h]
    match l,hn.symm.trans h with
    | [x],_=> rfl
  refine fA.enter (vs:= [.sl sb n cap]) func121 rfl ntmps121 Nb (jA.pull hS) fun St c cs hK=> ?_;refine II ?_;refine .rt hK func121 results121 [_] ?_;refine fun H' hs=> ⟨fun b x hb hx=> hs.base b x (by rw[nB hb];exact hx),jj,?_,?_,?_⟩
  ·rw[e,<-hn];rfl
  ·rw[e,<-hn]
  ·rw[e];exact hs.get (i:=0) rfl
 ·refine fA.enter (vs:= [.sl sb n cap]) func121 rfl ntmps121 Nb (jA.pull hS) fun St c cs hK=> ?_;refine XU ?_;refine Tc.db (Tc.qA (σ:= { i:Nat//1<=i/\i<=n/\AB l i=l.take i }) (fun i=> ([(0,.sl sb n cap),(3,.nt i.1)],[Bb sb ((rA dec l)++jj) 9])) (fun i=> n-i.1) ?_ ⟨1,Nat.le_refl _,oM,?_⟩)
  ·rintro ⟨i,g1,g2,g3⟩ ih;show Tc M St _ _ _ _ [(0,.sl sb n cap),(3,.nt i)] [Bb sb ((rA dec l)++jj) 9] _ _;by_cases c1:i=n
   ·have e:AB l n=l:=by rw[<-c1,g3,c1,hn,List.take_length]
    subst c1;refine AJ ?_;refine .rt hK func121 results121 [_] ?_;refine fun H' hs=> ⟨fun b x hb hx=> hs.base b x (by rw[nB hb];exact hx),jj,?_,?_,?_⟩
    ·rw[e,<-hn];rfl
    ·rw[e,<-hn]
    ·rw[e];exact hs.get (i:=0) rfl
   ·have c2 :i<n:=by omega
    have e1:((i:Nat):Int)-1=((i-1:Nat):Int):=by omega
    have k1:=xK (dec:=dec) (m:=l) (j:=jj) (o:=0) (k:=(i:Nat)) (p:=i) oM oM;have k2:=xK (dec:=dec) (m:=l) (j:=jj) (o:=0) (k:=(i:Nat)-1) (p:=i-1) oM oM;by_cases c3:vA l i=vA l (i-1)
    ·have c4:RL.LB .eql (dec (vA l i)) (dec (vA l (i-1)))=some (.bool true):=by rw[c3];simp[RL.LB]
     have K7:AB l (i+1)=l.take i:=by rw[AB,if_pos ⟨g1,c3⟩,g3]
     have KB:(l.take i).length=i:=by rw[List.length_take];omega
     refine JG ?_;refine Tc.dr [] [] mixed rfl ?_;refine iZ 0 ?_;refine .dn ?_;refine U5 ?_;refine .x (pA.slice (E:=en) (off':=0+((i:Nat):Int).toNat*1) rfl rfl rfl rfl rfl rfl rfl rfl oM oM oM (by rw[if_neg oM] <;> rfl)) ?_;refine U8 ?_;refine Tc.db (Tc.qA (σ:= { s:Nat×Nat×List Int//1<=s.2.1/\s.2.1<=n-i/\s.2.2.length=n/\s.1+1<=i+s.2.1/\s.1=(AB l (i+s.2.1)).length/\s.2.2.take s.1=AB l (i+s.2.1)/\∀p,i+s.2.1<=p+1->vA s.2.2 p=vA l p })
      (fun s=> ([(0,.sl sb n cap),(3,.nt s.1.1),(4,.slice (some ⟨sb,0+((i:Nat):Int).toNat*1,none⟩) (((n:Nat):Int).toNat-((i:Nat):Int).toNat) (cap-((i:Nat):Int).toNat)),(5,.nt s.1.2.1)],[Bb sb ((rA dec s.1.2.2)++jj) 9])) (fun s=> n-s.1.2.1) ?_
      ⟨(i,1,l),by simp only;omega,by simp only;omega,hn.symm,by simp only;omega,by simp only;rw[K7,KB],by simp only;rw[K7],fun p _=> rfl⟩)
     rintro⟨⟨v2,k,u⟩,h1,h2,h3,h4,h5,h6,h7⟩ ih2;simp only at h1 h2 h3 h4 h5 h6 h7;show Tc M St _ _ _ _ [(0,.sl sb n cap),(3,.nt v2),(4,.slice (some ⟨sb,0+((i:Nat):Int).toNat*1,none⟩) (((n:Nat):Int).toNat-((i:Nat):Int).toNat) (cap-((i:Nat):Int).toNat)),(5,.nt k)] [Bb sb ((rA dec u)++jj) 9] _ _;have BR:((n:Nat):Int).toNat-((i:Nat):Int).toNat=n-i:=by omega
     rw[BR];by_cases d1:k=n-i
     ·have e5:i+k=n:=by omega
      rw[e5] at h5 h6 h4;have uO:u.length=n:=h3;have hq0:((n:Nat):Int).toNat-((v2:Nat):Int).toNat=n-v2:=by omega
      refine MF ?_;refine .x (pA.slice (E:=en) (off':=0+((v2:Nat):Int).toNat*1) rfl rfl rfl rfl rfl rfl rfl rfl oM oM oM (by rw[if_neg oM] <;> rfl)) ?_;refine .e (Or.clear (E:=en) (c':=(rA dec (AB l n))++(List.replicate (n-v2) (bA [])++jj)) 0 rfl rfl rfl rfl rfl rfl rfl rfl rfl rfl rfl oM ?_ rfl ?_ ?_)
      ·rw[List.length_append,kC];omega
      ·show wH ((rA dec u)++jj) (0+((v2:Nat):Int).toNat*1) (List.replicate (((n:Nat):Int).toNat-((v2:Nat):Int).toNat) (bA []))=_;rw[hq0,Nat.zero_add,Int.toNat_natCast,Nat.mul_one];have e6:u=AB l n++u.drop v2:=by rw[<-h6,List.take_append_drop]
       have e7:(rA dec u)=(rA dec (AB l n))++(rA dec (u.drop v2)):=by
        have h:=congrArg (fun x=> (rA dec x)) e6;refine h.trans ?_;show(rA dec (AB l n++u.drop v2))=_;unfold rA;rw[List.map_append]
       have e8:(rA dec (AB l n)).length=v2:=by rw[kC,<-h5]
       have e9:(rA dec (u.drop v2)).length=n-v2:=by rw[kC,List.length_drop,uO]
       rw[e7,List.append_assoc];unfold wH;rw[List.take_left' e8,List.length_replicate,<-List.drop_drop,List.drop_left' e8,List.drop_left' e9];simp only[List.append_assoc]
      ·refine U5 ?_;refine .x (pA.sliceTo (E:=en) (k:=v2) rfl rfl rfl rfl rfl rfl oM oM) ?_;refine U2 ?_;refine .rt hK func121 results121 [_] ?_;refine fun H' hs=> ⟨fun b x hb hx=> hs.base b x (by rw[nB hb];exact hx),List.replicate (n-v2) (bA [])++jj,?_,?_,?_⟩
       ·rw[<-h5];rfl
       ·rw[List.length_append,List.length_replicate];omega
       ·exact hs.get (i:=0) rfl
     ·have d2:i+k<n:=by omega
      have e2:((k:Nat):Int)-1=((k-1:Nat):Int):=by omega
      have k3:=xK (dec:=dec) (m:=u) (j:=jj) (o:=0+((i:Nat):Int).toNat*1) (k:=(k:Nat)) (p:=i+k) oM oM;have k4:=xK (dec:=dec) (m:=u) (j:=jj) (o:=0+((i:Nat):Int).toNat*1) (k:=(k:Nat)-1) (p:=i+k-1) oM oM;have a1:=h7 (i+k) oM;have a2:=h7 (i+k-1) oM;by_cases d3:vA l (i+k)=vA l (i+k-1)
      ·have c5:RL.LB .neq (dec (vA u (i+k))) (dec (vA u (i+k-1)))=some (.bool false):=by rw[a1,a2,d3];simp[RL.LB]
       have L7:AB l (i+(k+1))=AB l (i+k):=by show AB l (i+k+1)=_;rw[AB,if_pos ⟨oM,d3⟩]
       refine JG ?_;refine Tc.dr [] [] mixed rfl ?_;refine iZ 0 ?_;refine .dn ?_;refine U8 ?_;exact Tc.db (ih2 ⟨(v2,k+1,u),by simp only;omega,by simp only;omega,h3,by simp only;omega,by simp only;rw[L7];exact h5,by simp only;rw[L7];exact h6,fun p hp=> h7 p (by simp only at hp;omega)⟩ Ob)
      ·have c5:RL.LB .neq (dec (vA u (i+k))) (dec (vA u (i+k-1)))=some (.bool true):=by rw[a1,a2];have:¬dec (vA l (i+k))=dec (vA l (i+k-1)):=fun h=> d3 (hE.inj (tA oM) (tA oM) h);simp[RL.LB,this]
       have L7:AB l (i+(k+1))=AB l (i+k)++[vA l (i+k)]:=by show AB l (i+k+1)=_;rw[AB,if_neg (fun h=> d3 h.2)]
       have s1:=EA (dec:=dec) (m:=u) (j:=jj) (k:=(v2:Nat)) (x:=vA u (i+k)) (p:=v2) rfl oM;have l1:=CA (dec:=dec) (m:=u) (j:=jj) (k:=(v2:Nat)) (p:=v2) rfl oM;refine JG ?_;refine Tc.dr [] [] mixed rfl ?_;refine iZ 0 ?_;refine .dn ?_;refine s6 ?_;exact Tc.db (ih2 ⟨(v2+1,k+1,u.set v2 (vA u (i+k))),by simp only;omega,by simp only;omega,by simp only;rw[List.length_set];exact h3,by simp only;omega,by simp only;rw[L7,List.length_append,<-h5];rfl,by simp only;rw[L7,FO oM,h6,a1],fun p hp=> by simp only at hp ⊢;rw[mZ oM];exact h7 p oM⟩ Ob)
    ·have c4:RL.LB .eql (dec (vA l i)) (dec (vA l (i-1)))=some (.bool false):=by have:¬dec (vA l i)=dec (vA l (i-1)):=fun h=> c3 (hE.inj (tA oM) (tA oM) h);simp[RL.LB,this]
     refine JG ?_;refine Tc.dr [] [] mixed rfl ?_;refine iZ 0 ?_;refine .dn ?_;refine U8 ?_;exact Tc.db (ih ⟨i+1,oM,oM,by rw[AB,if_neg (fun h=> c3 h.2),g3,QM oM]⟩ Ob)
  ·rw[QM (l:=l) (k:=0) oM];rfl
end
theorem wK {m:List Int}{j:List Value}{k:Int}{o p:Nat}(hk:o+k.toNat*1=p)(hp:p<m.length):zE false 1 ((SA m)++j) (o+k.toNat*1)=some (.int .i64 (vA m p)):=by
 rw[hk];have:=nN (m:=m) (j:=j) (k:=(p:Nat)) (p:=p) rfl hp;rw[Int.toNat_natCast,Nat.zero_add,Nat.mul_one] at this;exact this
def D5(H:View)(sb:Nat)(l:List Int)(jj:List Value)(n cap:Nat)(v:Value)(H':View):Prop:=
 (∀b x,b≠sb->H b=some x->H' b=some x)/\∃rest,v=.slice (some ⟨sb,0,none⟩) (AB l n).length cap/\(AB l n).length+rest.length=n+jj.length/\H' sb=some (true,.cells ⟨(SA (AB l n))++rest⟩ 3 (0,0))
section
variable(M:Md prog)(H:View)
theorem eX(sb:Nat)(l:List Int)(jj:List Value)(n cap:Nat)(hn:n=l.length)(gG:n<=1000000)(BC:n<=cap)(hS:H sb=some (true,.cells ⟨(SA l)++jj⟩ 3 (0,0))):
  fA M 136 #[.sl sb n cap] H (D5 H sb l jj n cap):=by
 by_cases c0:n<2
 ·have e:AB l n=l:=by
   rcases(by omega:n=0\/n=1) with h|h
   ·have:l= []:=List.eq_nil_of_length_eq_zero oM;rw[h,this];rfl
   ·rw[h]
    match l,hn.symm.trans h with
    | [x],_=> rfl
  refine fA.enter (vs:= [.sl sb n cap]) func136 rfl ntmps136 Nb (jA.pull hS) fun St c cs hK=> ?_;refine II ?_;refine .rt hK func136 results136 [_] ?_;refine fun H' hs=> ⟨fun b x hb hx=> hs.base b x (by rw[nB hb];exact hx),jj,?_,?_,?_⟩
  ·rw[e,<-hn];rfl
  ·rw[e,<-hn]
  ·rw[e];exact hs.get (i:=0) rfl
 ·refine fA.enter (vs:= [.sl sb n cap]) func136 rfl ntmps136 Nb (jA.pull hS) fun St c cs hK=> ?_;refine XU ?_;refine Tc.db (Tc.qA (σ:= { i:Nat//1<=i/\i<=n/\AB l i=l.take i }) (fun i=> ([(0,.sl sb n cap),(3,.nt i.1)],[Bb sb ((SA l)++jj) 3])) (fun i=> n-i.1) ?_ ⟨1,Nat.le_refl _,oM,?_⟩)
  ·rintro ⟨i,g1,g2,g3⟩ ih;show Tc M St _ _ _ _ [(0,.sl sb n cap),(3,.nt i)] [Bb sb ((SA l)++jj) 3] _ _;by_cases c1:i=n
   ·have e:AB l n=l:=by rw[<-c1,g3,c1,hn,List.take_length]
    subst c1;refine AJ ?_;refine .rt hK func136 results136 [_] ?_;refine fun H' hs=> ⟨fun b x hb hx=> hs.base b x (by rw[nB hb];exact hx),jj,?_,?_,?_⟩
    ·rw[e,<-hn];rfl
    ·rw[e,<-hn]
    ·rw[e];exact hs.get (i:=0) rfl
   ·have c2 :i<n:=by omega
    have e1:((i:Nat):Int)-1=((i-1:Nat):Int):=by omega
    have k1:=wK (m:=l) (j:=jj) (o:=0) (k:=(i:Nat)) (p:=i) oM oM;have k2:=wK (m:=l) (j:=jj) (o:=0) (k:=(i:Nat)-1) (p:=i-1) oM oM;by_cases c3:vA l i=vA l (i-1)
    ·skip
     have K7:AB l (i+1)=l.take i:=by rw[AB,if_pos ⟨g1,c3⟩,g3]
     have KB:(l.take i).length=i:=by rw[List.length_take];omega
     refine JG ?_;refine Tc.dr [] [] mixed rfl ?_;refine iZ 0 ?_;refine .dn ?_;refine U5 ?_;refine .x (pA.slice (E:=en) (off':=0+((i:Nat):Int).toNat*1) rfl rfl rfl rfl rfl rfl rfl rfl oM oM oM (by rw[if_neg oM] <;> rfl)) ?_;refine U8 ?_;refine Tc.db (Tc.qA (σ:= { s:Nat×Nat×List Int//1<=s.2.1/\s.2.1<=n-i/\s.2.2.length=n/\s.1+1<=i+s.2.1/\s.1=(AB l (i+s.2.1)).length/\s.2.2.take s.1=AB l (i+s.2.1)/\∀p,i+s.2.1<=p+1->vA s.2.2 p=vA l p })
      (fun s=> ([(0,.sl sb n cap),(3,.nt s.1.1),(4,.slice (some ⟨sb,0+((i:Nat):Int).toNat*1,none⟩) (((n:Nat):Int).toNat-((i:Nat):Int).toNat) (cap-((i:Nat):Int).toNat)),(5,.nt s.1.2.1)],[Bb sb ((SA s.1.2.2)++jj) 3])) (fun s=> n-s.1.2.1) ?_
      ⟨(i,1,l),by simp only;omega,by simp only;omega,hn.symm,by simp only;omega,by simp only;rw[K7,KB],by simp only;rw[K7],fun p _=> rfl⟩)
     rintro⟨⟨v2,k,u⟩,h1,h2,h3,h4,h5,h6,h7⟩ ih2;simp only at h1 h2 h3 h4 h5 h6 h7;show Tc M St _ _ _ _ [(0,.sl sb n cap),(3,.nt v2),(4,.slice (some ⟨sb,0+((i:Nat):Int).toNat*1,none⟩) (((n:Nat):Int).toNat-((i:Nat):Int).toNat) (cap-((i:Nat):Int).toNat)),(5,.nt k)] [Bb sb ((SA u)++jj) 3] _ _;have BR:((n:Nat):Int).toNat-((i:Nat):Int).toNat=n-i:=by omega
     rw[BR];by_cases d1:k=n-i
     ·have e5:i+k=n:=by omega
      rw[e5] at h5 h6 h4;have uO:u.length=n:=h3;have hq0:((n:Nat):Int).toNat-((v2:Nat):Int).toNat=n-v2:=by omega
      refine MF ?_;refine .x (pA.slice (E:=en) (off':=0+((v2:Nat):Int).toNat*1) rfl rfl rfl rfl rfl rfl rfl rfl oM oM oM (by rw[if_neg oM] <;> rfl)) ?_;refine .e (Or.clear (E:=en) (c':=(SA (AB l n))++(List.replicate (n-v2) (.int .i64 0)++jj)) 0 rfl rfl rfl rfl rfl rfl rfl rfl rfl rfl rfl oM ?_ rfl ?_ ?_)
      ·rw[List.length_append,rC];omega
      ·show wH ((SA u)++jj) (0+((v2:Nat):Int).toNat*1) (List.replicate (((n:Nat):Int).toNat-((v2:Nat):Int).toNat) (.int .i64 0))=_;rw[hq0,Nat.zero_add,Int.toNat_natCast,Nat.mul_one];have e6:u=AB l n++u.drop v2:=by rw[<-h6,List.take_append_drop]
       have e7:(SA u)=(SA (AB l n))++(SA (u.drop v2)):=by
        have h:=congrArg (fun x=> (SA x)) e6;refine h.trans ?_;show(SA (AB l n++u.drop v2))=_;unfold SA;rw[List.map_append]
       have e8:(SA (AB l n)).length=v2:=by rw[rC,<-h5]
       have e9:(SA (u.drop v2)).length=n-v2:=by rw[rC,List.length_drop,uO]
       rw[e7,List.append_assoc];unfold wH;rw[List.take_left' e8,List.length_replicate,<-List.drop_drop,List.drop_left' e8,List.drop_left' e9];simp only[List.append_assoc]
      ·refine U5 ?_;refine .x (pA.sliceTo (E:=en) (k:=v2) rfl rfl rfl rfl rfl rfl oM oM) ?_;refine U2 ?_;refine .rt hK func136 results136 [_] ?_;refine fun H' hs=> ⟨fun b x hb hx=> hs.base b x (by rw[nB hb];exact hx),List.replicate (n-v2) (.int .i64 0)++jj,?_,?_,?_⟩
       ·rw[<-h5];rfl
       ·rw[List.length_append,List.length_replicate];omega
       ·exact hs.get (i:=0) rfl
     ·have d2:i+k<n:=by omega
      have e2:((k:Nat):Int)-1=((k-1:Nat):Int):=by omega
      have k3:=wK (m:=u) (j:=jj) (o:=0+((i:Nat):Int).toNat*1) (k:=(k:Nat)) (p:=i+k) oM oM;have k4:=wK (m:=u) (j:=jj) (o:=0+((i:Nat):Int).toNat*1) (k:=(k:Nat)-1) (p:=i+k-1) oM oM;have a1:=h7 (i+k) oM;have a2:=h7 (i+k-1) oM;by_cases d3:vA l (i+k)=vA l (i+k-1)
      ·have a3:vA u (i+k)=vA u (i+k-1):=by rw[a1,a2,d3]
       have L7:AB l (i+(k+1))=AB l (i+k):=by show AB l (i+k+1)=_;rw[AB,if_pos ⟨oM,d3⟩]
       refine JG ?_;refine Tc.dr [] [] mixed rfl ?_;refine iZ 0 ?_;refine .dn ?_;refine U8 ?_;exact Tc.db (ih2 ⟨(v2,k+1,u),by simp only;omega,by simp only;omega,h3,by simp only;omega,by simp only;rw[L7];exact h5,by simp only;rw[L7];exact h6,fun p hp=> h7 p (by simp only at hp;omega)⟩ Ob)
      ·have a3:¬vA u (i+k)=vA u (i+k-1):=by rw[a1,a2];exact d3
       have L7:AB l (i+(k+1))=AB l (i+k)++[vA l (i+k)]:=by show AB l (i+k+1)=_;rw[AB,if_neg (fun h=> d3 h.2)]
       have s1:=pN (m:=u) (j:=jj) (k:=(v2:Nat)) (x:=vA u (i+k)) (p:=v2) rfl oM;have l1:=oN (m:=u) (j:=jj) (k:=(v2:Nat)) (p:=v2) rfl oM;refine JG ?_;refine Tc.dr [] [] mixed rfl ?_;refine iZ 0 ?_;refine .dn ?_;refine s6 ?_;exact Tc.db (ih2 ⟨(v2+1,k+1,u.set v2 (vA u (i+k))),by simp only;omega,by simp only;omega,by simp only;rw[List.length_set];exact h3,by simp only;omega,by simp only;rw[L7,List.length_append,<-h5];rfl,by simp only;rw[L7,FO oM,h6,a1],fun p hp=> by simp only at hp ⊢;rw[mZ oM];exact h7 p oM⟩ Ob)
    ·skip
     refine JG ?_;refine Tc.dr [] [] mixed rfl ?_;refine iZ 0 ?_;refine .dn ?_;refine U8 ?_;exact Tc.db (ih ⟨i+1,oM,oM,by rw[AB,if_neg (fun h=> c3 h.2),g3,QM oM]⟩ Ob)
  ·rw[QM (l:=l) (k:=0) oM];rfl
end
def bl(x:Nat):Nat:=if x=0 then 0 else Nat.log2 x+1
theorem aEX:∀x:Nat,x<64->(UInt8.ofNat (bl x)).toNat=bl x/\bl x<=6/\x<2 ^ bl x/\2 ^ bl x<=2*x+1:=by decide +kernel
theorem aBZ:∀x:Nat,x<64->IntKind.u8.wrap (x:Int)=(x:Int):=by decide +kernel
section
variable(M:Md prog)(H:View)
theorem aAJ(x:Nat)(hx:x<64):fA M 266 #[.int .u64 (x:Nat)] H (Ib H (.int .i64 (bl x:Nat))):=by
 obtain⟨b1,b2,_,_⟩:=aEX x hx;have hw:=aBZ x hx;have hw2:IntKind.i64.wrap (((UInt8.ofNat (bl x)).toNat:Nat):Int)=((bl x:Nat):Int):=by rw[b1];exact wrap64 oM oM
 have aCT:iA .add .i64 0 ((bl x:Nat):Int)=some (.int .i64 ((bl x:Nat):Int)):=by rw[pB oM oM,Int.zero_add]
 refine .en func266 ntmps266 fun St c cs hK=> ?_;refine U33 ?_;refine .x (pA.lQ (c:=UInt8.ofNat (bl x)) rfl rfl rfl (DF ((en.ok _ _ (show en.ty 9=some _ from rfl)).ds.trans rfl)) oM (by
  rw[Int.toNat_natCast];exact(fun(s:ByteArray) (h:∀y:Nat,y<64->s[y]? =some (UInt8.ofNat (bl y)))=> h x hx) _ (by decide +kernel))) ?_
 refine .x (pA.xZ (E:=en) rfl rfl rfl rfl rfl rfl hw2) ?_;refine .i ?_ (z:=aCT);refine U2 ?_;refine .rt hK func266 results266 [_] ?_;exact okB
theorem aZ(x:Nat)(hx:x<64):fA M 197 #[.int .u64 (x:Nat)] H (Ib H (.int .i64 (bl x:Nat))):=by
 refine .en func197 ntmps197 fun St c cs hK=> ?_;refine iD ?_;refine .cl (fun H hs=> aAJ M H x hx) ?_;refine U2 ?_;refine .rt hK func197 results197 [_] ?_;exact okB
end
theorem sU:∀x:Nat,x<64->IntKind.u64.wrap (x:Int)=(x:Int):=by decide +kernel
section
variable(M:Md prog)(H:View)
theorem aDv(dec:Int->By)(sb:Nat)(l:List Int)(jj:List Value)(n cap:Nat)(lim:Int)(hn:n=l.length)(hE:MO dec l)(oR:n<=12)(hS:H sb=some (true,.cells ⟨(rA dec l)++jj⟩ 9 (0,0))):
  fA M 196 #[.sl sb n cap,.iz 0,.nt n,.iz lim] H (xB dec H sb jj (fun v m=> v=.tuple ⟨[]⟩/\nA 0 n l m/\AF 0 n m)):=by
 refine fA.enter (vs:= [.sl sb n cap,.iz 0,.nt n,.iz lim]) func196 rfl ntmps196 Nb (jA.pull hS) fun St c cs hK=> ?_;refine U7 ?_;refine .done (.block (.loop (.block (.sr ?_))));refine II ?_;refine .e (Or.vF (dec:=dec) (l:=l) 0 (fun v m=> v=.tuple ⟨[]⟩/\nA 0 n l m/\AF 0 n m) rfl rfl rfl rfl rfl dE rfl (fun H hs=> .h (rM M H dec sb l jj n cap 0 n hn hE oM oM oM (hs.get (i:=0) rfl))) (fun v m hm=> ?_));refine U ?_;obtain⟨rfl,ht,FJ⟩:=hm;refine .rt hK func196 results196 [] ?_;exact fun H' hs=> xB.of hs (i:=0) rfl ⟨rfl,ht,FJ⟩
theorem aAR(dec:Int->By)(sb:Nat)(l:List Int)(jj:List Value)(n cap:Nat)(hn:n=l.length)(hE:MO dec l)(oR:n<=12)(hS:H sb=some (true,.cells ⟨(rA dec l)++jj⟩ 9 (0,0))):
  fA M 120 #[.sl sb n cap] H (xB dec H sb jj (fun v m=> v=.tuple ⟨[]⟩/\nA 0 n l m/\AF 0 n m)):=by
 have hw:=sU n oM;refine fA.enter (vs:= [.sl sb n cap]) func120 rfl ntmps120 Nb (jA.pull hS) fun St c cs hK=> ?_;refine ND ?_;refine .cl (fun H hs=> aZ M H n oM) ?_;refine .e (Or.vF (dec:=dec) (l:=l) 0 (fun v m=> v=.tuple ⟨[]⟩/\nA 0 n l m/\AF 0 n m) rfl rfl rfl rfl rfl dE rfl (fun H hs=> .h (aDv M H dec sb l jj n cap (bl n:Nat) hn hE oR (hs.get (i:=0) rfl))) (fun v m hm=> ?_));refine U ?_;obtain⟨rfl,ht,FJ⟩:=hm;refine .ov hK func120 results120 [] ?_;exact fun H' hs=> xB.of hs (i:=0) rfl ⟨rfl,ht,FJ⟩
theorem oQ(c0:Nat):fA M 256 #[.slice none 0 c0,.iz 0,.iz ((0:Nat):Int)] H (Ib H (.tuple ⟨[]⟩)):=by
 refine .en func256 ntmps256 fun St c cs hK=> ?_;refine U5 ?_;refine .done (.block (.loop (.seq (.sr ?_))));refine U6 ?_;refine .ov hK func256 results256 [] ?_;exact okB
theorem B9(c0:Nat)(lim:Int):fA M 196 #[.slice none 0 c0,.iz 0,.iz ((0:Nat):Int),.iz lim] H (Ib H (.tuple ⟨[]⟩)):=by
 refine .en func196 ntmps196 fun St c cs hK=> ?_;refine U7 ?_;refine .done (.block (.loop (.block (.sr ?_))));refine II ?_;refine .cl (fun H hs=> oQ M H c0) ?_;refine U ?_;refine .rt hK func196 results196 [] ?_;exact okB
theorem QR(c0:Nat):fA M 120 #[.slice none 0 c0] H (Ib H (.tuple ⟨[]⟩)):=by
 have hw:=sU 0 oM;refine .en func120 ntmps120 fun St c cs hK=> ?_;refine ND ?_;refine .cl (fun H hs=> aZ M H 0 oM) ?_;refine .cl (fun H hs=> B9 M H c0 (bl 0:Nat)) ?_;refine U ?_;refine .ov hK func120 results120 [] ?_;exact okB
theorem QS(c0:Nat):fA M 121 #[.slice none 0 c0] H (Ib H (.slice none 0 c0)):=by
 refine .en func121 ntmps121 fun St c cs hK=> ?_;refine II ?_;refine .rt hK func121 results121 [_] ?_;exact okB
end
def Gl.LS(g:Gl 9 1)(m:List Value)(h:m.length=g.n):Gl 9 1:=⟨g.blk,g.n,g.cap,m,g.jB,by rw[h,Nat.mul_one],g.hc,g.hj,g.h0⟩
theorem Or.aGt {dec:Int->By}{M:Md prog}{n:Nat}{H₀:View}{R:Rg}{L1:Bl}{o:Oper}{K:Rg->Bl->Prop}{cl:Go.Call}{x:Operand}{fv:Value}{d:Nat}(g:Gl 9 1)(u:List Int)(hg:g.l=(rA dec u))(hE:MO dec u)(oR:g.n<=12)
  (lA:o.op=.call cl) (iB:cl.callee=.value x) (hx:JA R x=some fv) (has:lD R cl.args.toList=some [g.val]) (hd:o.dst=some d) (hn:d<n)
  (hc:∀(H:View) (Q:Value->View->Prop),fA M 120 #[g.val] H Q->WB M fv [g.val] H Q)
  (hK:∀(g':Gl 9 1) (m:List Int),g'.val=g.val->g'.n=g.n->g'.blk=g.blk->g'.l=(rA dec m)->nA 0 g.n u m->AF 0 g.n m->K ((d,.tuple ⟨[]⟩)::R) (L1++g'.bl)):Or M n H₀ R (L1++g.bl) o K:=by
 have uO:u.length=g.n:=by have:=g.hl;rw[hg,kC] at this;omega
 cases hb:g.blk with
 | none=>
  have BC:=g.h0 hb;have XW:=g.hc;have h0:g.n=0:=by omega
  have vJ:g.bl= []:=by unfold Gl.bl;rw[hb]
  have hv:g.val=.slice none 0 g.cap:=by unfold Gl.val;rw[hb,h0];rfl
  refine Or.xA (fun _:Unit=> .tuple ⟨[]⟩) (fun _=> []) (fun _=> True) lA iB hx has hd hn (fun _=> by simp) (fun H hs=> hc H _ ?_) (fun _ _=> ?_)
  ·rw[hv];exact fA.mono (QR M H g.cap) (fun v H' ⟨h1,h2⟩=> ⟨h1,(),h2,trivial,by simp⟩)
  ·rw[List.append_nil];exact hK g u rfl rfl rfl hg (nA.refl _ _ _) (fun p q h1 h2 h3=> by omega)
 | some b=>
  have vJ:g.bl= [Bb b ((rA dec u)++g.jB) 9]:=by unfold Gl.bl;rw[hb,hg]
  have hv:g.val=.slice (some ⟨b,0,none⟩) g.n g.cap:=by unfold Gl.val;rw[hb];rfl
  rw[vJ];refine Or.vF (dec:=dec) (l:=u) L1.length (fun v m=> v=.tuple ⟨[]⟩/\nA 0 g.n u m/\AF 0 g.n m) lA iB hx has hd hn (by rw[List.getElem?_append_right (Nat.le_refl _),Nat.sub_self];rfl)
   (fun H hs=> hc H _ ?_) (fun v m ⟨h1,h2,h3⟩=> ?_)
  ·rw[hv];exact aAR M H dec b u g.jB g.n g.cap uO.symm hE oR (hs.get (i:=L1.length) (by rw[List.getElem?_append_right (Nat.le_refl _),Nat.sub_self];rfl))
  ·subst h1;have jQ:m.length=g.n:=by rw[h2.len];exact uO
   have:=hK (Gl.LS g (rA dec m) (by rw[kC];exact jQ)) m rfl rfl rfl rfl h2 h3;have G7:(Gl.LS g (rA dec m) (by rw[kC];exact jQ)).bl= [Bb b ((rA dec m)++g.jB) 9]:=by
    unfold Gl.bl Gl.LS;simp only[hb]
   rw[G7] at this;rw[List.set_append_right _ _ (Nat.le_refl _),Nat.sub_self];exact this
theorem Or.aA8 {dec:Int->By}{M:Md prog}{n:Nat}{H₀:View}{R:Rg}{L1:Bl}{o:Oper}{K:Rg->Bl->Prop}{cl:Go.Call}{x:Operand}{fv:Value}{d:Nat}(g:Gl 9 1)(u:List Int)(hg:g.l=(rA dec u))(hE:MO dec u)(oR:g.n<=100000000)
  (lA:o.op=.call cl) (iB:cl.callee=.value x) (hx:JA R x=some fv) (has:lD R cl.args.toList=some [g.val]) (hd:o.dst=some d) (hn:d<n)
  (hc:∀(H:View) (Q:Value->View->Prop),fA M 121 #[g.val] H Q->WB M fv [g.val] H Q)
  (hK:∀(g':Gl 9 1),g'.n=(AB u g.n).length->g'.l=(rA dec (AB u g.n))->K ((d,g'.val)::R) (L1++g'.bl)):Or M n H₀ R (L1++g.bl) o K:=by
 have uO:u.length=g.n:=by have:=g.hl;rw[hg,kC] at this;omega
 cases hb:g.blk with
 | none=>
  have BC:=g.h0 hb;have XW:=g.hc;have h0:g.n=0:=by omega
  have vJ:g.bl= []:=by unfold Gl.bl;rw[hb]
  have hv:g.val=.slice none 0 g.cap:=by unfold Gl.val;rw[hb,h0];rfl
  have hu0:u= []:=List.eq_nil_of_length_eq_zero oM;refine Or.xA (fun _:Unit=> g.val) (fun _=> []) (fun _=> True) lA iB hx has hd hn (fun _=> by simp) (fun H hs=> hc H _ ?_) (fun _ _=> ?_)
  ·rw[hv];exact fA.mono (QS M H g.cap) (fun v H' ⟨h1,h2⟩=> ⟨h1,(),h2,trivial,by simp⟩)
  ·rw[List.append_nil];refine hK g (by rw[h0];rfl) ?_;rw[hg,hu0,h0];rfl
 | some b=>
  have vJ:g.bl= [Bb b ((rA dec u)++g.jB) 9]:=by unfold Gl.bl;rw[hb,hg]
  have hv:g.val=.slice (some ⟨b,0,none⟩) g.n g.cap:=by unfold Gl.val;rw[hb];rfl
  rw[vJ];have hi:(L1++[(b,true,Obj.cells ⟨(rA dec u)++g.jB⟩ 9 (0,0))])[L1.length]? =some (b,true,Obj.cells ⟨(rA dec u)++g.jB⟩ 9 (0,0)):=by rw[List.getElem?_append_right (Nat.le_refl _),Nat.sub_self];rfl
  refine .IP lA iB hx has (Q:=fun H v H'=> E5 dec H b u g.jB g.n g.cap v H') (fun H hs=> hc H _ ?_) (fun H v H' hs hq=> ?_)
  ·rw[hv];exact fX M H dec b u g.jB g.n g.cap uO.symm hE oR g.hc (hs.get hi)
  ·obtain⟨h1,rest,h2,h3,h4⟩:=hq;subst h2;have hle:=mT u g.n;have XW:=g.hc;have hgj:=g.hj;refine⟨L1++[Bb b ((rA dec (AB u g.n))++rest) 9],_,?_,by rw[hd];exact⟨hn,rfl⟩,?_⟩
   ·have:=OG hs hi h1 h4;rw[List.set_append_right _ _ (Nat.le_refl _),Nat.sub_self] at this;exact this
   ·have:=hK ⟨some b,(AB u g.n).length,g.cap,(rA dec (AB u g.n)),rest,by rw[kC,Nat.mul_one],oM,oM,fun h=> by cases h⟩ rfl rfl;exact this
section
variable(M:Md prog)(H:View)
theorem aDu(sb:Nat)(l:List Int)(jj:List Value)(n cap:Nat)(lim:Int)(hn:n=l.length)(oR:n<=12)(hS:H sb=some (true,.cells ⟨(SA l)++jj⟩ 3 (0,0))):
  fA M 222 #[.sl sb n cap,.iz 0,.nt n,.iz lim] H (FD H sb jj (fun v m=> v=.tuple ⟨[]⟩/\nA 0 n l m/\AF 0 n m)):=by
 refine fA.enter (vs:= [.sl sb n cap,.iz 0,.nt n,.iz lim]) func222 rfl ntmps222 Nb (jA.pull hS) fun St c cs hK=> ?_;refine U7 ?_;refine .done (.block (.loop (.block (.sr ?_))));refine II ?_;refine .e (Or.nU (l:=l) 0 (fun v m=> v=.tuple ⟨[]⟩/\nA 0 n l m/\AF 0 n m) rfl rfl rfl rfl rfl dE rfl (fun H hs=> .h (PT M H sb l jj n cap 0 n hn oM oM oM (hs.get (i:=0) rfl))) (fun v m hm=> ?_));refine U ?_;obtain⟨rfl,ht,FJ⟩:=hm;refine .rt hK func222 results222 [] ?_;exact fun H' hs=> FD.of hs (i:=0) rfl ⟨rfl,ht,FJ⟩
theorem aAQ(sb:Nat)(l:List Int)(jj:List Value)(n cap:Nat)(hn:n=l.length)(oR:n<=12)(hS:H sb=some (true,.cells ⟨(SA l)++jj⟩ 3 (0,0))):
  fA M 135 #[.sl sb n cap] H (FD H sb jj (fun v m=> v=.tuple ⟨[]⟩/\nA 0 n l m/\AF 0 n m)):=by
 have hw:=sU n oM;refine fA.enter (vs:= [.sl sb n cap]) func135 rfl ntmps135 Nb (jA.pull hS) fun St c cs hK=> ?_;refine ND ?_;refine .cl (fun H hs=> aZ M H n oM) ?_;refine .e (Or.nU (l:=l) 0 (fun v m=> v=.tuple ⟨[]⟩/\nA 0 n l m/\AF 0 n m) rfl rfl rfl rfl rfl dE rfl (fun H hs=> .h (aDu M H sb l jj n cap (bl n:Nat) hn oR (hs.get (i:=0) rfl))) (fun v m hm=> ?_));refine U ?_;obtain⟨rfl,ht,FJ⟩:=hm;refine .ov hK func135 results135 [] ?_;exact fun H' hs=> FD.of hs (i:=0) rfl ⟨rfl,ht,FJ⟩
theorem nQ(c0:Nat):fA M 272 #[.slice none 0 c0,.iz 0,.iz ((0:Nat):Int)] H (Ib H (.tuple ⟨[]⟩)):=by
 refine .en func272 ntmps272 fun St c cs hK=> ?_;refine U5 ?_;refine .done (.block (.loop (.seq (.sr ?_))));refine U6 ?_;refine .ov hK func272 results272 [] ?_;exact okB
theorem A9(c0:Nat)(lim:Int):fA M 222 #[.slice none 0 c0,.iz 0,.iz ((0:Nat):Int),.iz lim] H (Ib H (.tuple ⟨[]⟩)):=by
 refine .en func222 ntmps222 fun St c cs hK=> ?_;refine U7 ?_;refine .done (.block (.loop (.block (.sr ?_))));refine II ?_;refine .cl (fun H hs=> nQ M H c0) ?_;refine U ?_;refine .rt hK func222 results222 [] ?_;exact okB
theorem W0(c0:Nat):fA M 135 #[.slice none 0 c0] H (Ib H (.tuple ⟨[]⟩)):=by
 have hw:=sU 0 oM;refine .en func135 ntmps135 fun St c cs hK=> ?_;refine ND ?_;refine .cl (fun H hs=> aZ M H 0 oM) ?_;refine .cl (fun H hs=> A9 M H c0 (bl 0:Nat)) ?_;refine U ?_;refine .ov hK func135 results135 [] ?_;exact okB
theorem PS(c0:Nat):fA M 136 #[.slice none 0 c0] H (Ib H (.slice none 0 c0)):=by
 refine .en func136 ntmps136 fun St c cs hK=> ?_;refine II ?_;refine .rt hK func136 results136 [_] ?_;exact okB
end
def Gl.aAt(g:Gl 3 1)(m:List Value)(h:m.length=g.n):Gl 3 1:=⟨g.blk,g.n,g.cap,m,g.jB,by rw[h,Nat.mul_one],g.hc,g.hj,g.h0⟩
theorem Or.aBP {M:Md prog}{n:Nat}{H₀:View}{R:Rg}{L1:Bl}{o:Oper}{K:Rg->Bl->Prop}{cl:Go.Call}{x:Operand}{fv:Value}{d:Nat}(g:Gl 3 1)(u:List Int)(hg:g.l=(SA u))(oR:g.n<=12)
  (lA:o.op=.call cl) (iB:cl.callee=.value x) (hx:JA R x=some fv) (has:lD R cl.args.toList=some [g.val]) (hd:o.dst=some d) (hn:d<n)
  (hc:∀(H:View) (Q:Value->View->Prop),fA M 135 #[g.val] H Q->WB M fv [g.val] H Q)
  (hK:∀(g':Gl 3 1) (m:List Int),g'.val=g.val->g'.n=g.n->g'.blk=g.blk->g'.l=(SA m)->nA 0 g.n u m->AF 0 g.n m->K ((d,.tuple ⟨[]⟩)::R) (L1++g'.bl)):Or M n H₀ R (L1++g.bl) o K:=by
 have uO:u.length=g.n:=by have:=g.hl;rw[hg,rC] at this;omega
 cases hb:g.blk with
 | none=>
  have BC:=g.h0 hb;have XW:=g.hc;have h0:g.n=0:=by omega
  have vJ:g.bl= []:=by unfold Gl.bl;rw[hb]
  have hv:g.val=.slice none 0 g.cap:=by unfold Gl.val;rw[hb,h0];rfl
  refine Or.xA (fun _:Unit=> .tuple ⟨[]⟩) (fun _=> []) (fun _=> True) lA iB hx has hd hn (fun _=> by simp) (fun H hs=> hc H _ ?_) (fun _ _=> ?_)
  ·rw[hv];exact fA.mono (W0 M H g.cap) (fun v H' ⟨h1,h2⟩=> ⟨h1,(),h2,trivial,by simp⟩)
  ·rw[List.append_nil];exact hK g u rfl rfl rfl hg (nA.refl _ _ _) (fun p q h1 h2 h3=> by omega)
 | some b=>
  have vJ:g.bl= [Bb b ((SA u)++g.jB) 3]:=by unfold Gl.bl;rw[hb,hg]
  have hv:g.val=.slice (some ⟨b,0,none⟩) g.n g.cap:=by unfold Gl.val;rw[hb];rfl
  rw[vJ];refine Or.nU (l:=u) L1.length (fun v m=> v=.tuple ⟨[]⟩/\nA 0 g.n u m/\AF 0 g.n m) lA iB hx has hd hn (by rw[List.getElem?_append_right (Nat.le_refl _),Nat.sub_self];rfl)
   (fun H hs=> hc H _ ?_) (fun v m ⟨h1,h2,h3⟩=> ?_)
  ·rw[hv];exact aAQ M H b u g.jB g.n g.cap uO.symm oR (hs.get (i:=L1.length) (by rw[List.getElem?_append_right (Nat.le_refl _),Nat.sub_self];rfl))
  ·subst h1;have jQ:m.length=g.n:=by rw[h2.len];exact uO
   have:=hK (Gl.aAt g (SA m) (by rw[rC];exact jQ)) m rfl rfl rfl rfl h2 h3;have G7:(Gl.aAt g (SA m) (by rw[rC];exact jQ)).bl= [Bb b ((SA m)++g.jB) 3]:=by
    unfold Gl.bl Gl.aAt;simp only[hb]
   rw[G7] at this;rw[List.set_append_right _ _ (Nat.le_refl _),Nat.sub_self];exact this
theorem Or.aA7 {M:Md prog}{n:Nat}{H₀:View}{R:Rg}{L1:Bl}{o:Oper}{K:Rg->Bl->Prop}{cl:Go.Call}{x:Operand}{fv:Value}{d:Nat}(g:Gl 3 1)(u:List Int)(hg:g.l=(SA u))(oR:g.n<=1000000)
  (lA:o.op=.call cl) (iB:cl.callee=.value x) (hx:JA R x=some fv) (has:lD R cl.args.toList=some [g.val]) (hd:o.dst=some d) (hn:d<n)
  (hc:∀(H:View) (Q:Value->View->Prop),fA M 136 #[g.val] H Q->WB M fv [g.val] H Q)
  (hK:∀(g':Gl 3 1),g'.n=(AB u g.n).length->g'.l=(SA (AB u g.n))->K ((d,g'.val)::R) (L1++g'.bl)):Or M n H₀ R (L1++g.bl) o K:=by
 have uO:u.length=g.n:=by have:=g.hl;rw[hg,rC] at this;omega
 cases hb:g.blk with
 | none=>
  have BC:=g.h0 hb;have XW:=g.hc;have h0:g.n=0:=by omega
  have vJ:g.bl= []:=by unfold Gl.bl;rw[hb]
  have hv:g.val=.slice none 0 g.cap:=by unfold Gl.val;rw[hb,h0];rfl
  have hu0:u= []:=List.eq_nil_of_length_eq_zero oM;refine Or.xA (fun _:Unit=> g.val) (fun _=> []) (fun _=> True) lA iB hx has hd hn (fun _=> by simp) (fun H hs=> hc H _ ?_) (fun _ _=> ?_)
  ·rw[hv];exact fA.mono (PS M H g.cap) (fun v H' ⟨h1,h2⟩=> ⟨h1,(),h2,trivial,by simp⟩)
  ·rw[List.append_nil];refine hK g (by rw[h0];rfl) ?_;rw[hg,hu0,h0];rfl
 | some b=>
  have vJ:g.bl= [Bb b ((SA u)++g.jB) 3]:=by unfold Gl.bl;rw[hb,hg]
  have hv:g.val=.slice (some ⟨b,0,none⟩) g.n g.cap:=by unfold Gl.val;rw[hb];rfl
  rw[vJ];have hi:(L1++[(b,true,Obj.cells ⟨(SA u)++g.jB⟩ 3 (0,0))])[L1.length]? =some (b,true,Obj.cells ⟨(SA u)++g.jB⟩ 3 (0,0)):=by rw[List.getElem?_append_right (Nat.le_refl _),Nat.sub_self];rfl
  refine .IP lA iB hx has (Q:=fun H v H'=> D5 H b u g.jB g.n g.cap v H') (fun H hs=> hc H _ ?_) (fun H v H' hs hq=> ?_)
  ·rw[hv];exact eX M H b u g.jB g.n g.cap uO.symm oR g.hc (hs.get hi)
  ·obtain⟨h1,rest,h2,h3,h4⟩:=hq;subst h2;have hle:=mT u g.n;have XW:=g.hc;have hgj:=g.hj;refine⟨L1++[Bb b ((SA (AB u g.n))++rest) 3],_,?_,by rw[hd];exact⟨hn,rfl⟩,?_⟩
   ·have:=OG hs hi h1 h4;rw[List.set_append_right _ _ (Nat.le_refl _),Nat.sub_self] at this;exact this
   ·have:=hK ⟨some b,(AB u g.n).length,g.cap,(SA (AB u g.n)),rest,by rw[rC,Nat.mul_one],oM,oM,fun h=> by cases h⟩ rfl rfl;exact this
set_option maxHeartbeats 16000000
def Bk.CJ(k:Bk)(line:Nat)(s:By):Option Int:=match k.line s with
 | some j=> if j=line then none else some (j:Nat)
 | none=> none
def Bk.iQ(k:Bk)(line:Nat):List Int:=(jI (k.num line)).filterMap (k.CJ line)
def aEI(g:Gl 3 1)(a:Int):Value:=.tuple ⟨[g.val,.iz a]⟩
theorem Bk.pQ {k:Bk}(ha:k.WA=0){i:Nat}(hi:i<k.nl):(k.num i).all OC=true/\1<=(k.num i).length/\(k.num i).length<=3:=by
 obtain⟨_,_,h,_⟩:=Bk.FH ha hi;unfold isNum at h;simp only[Bool.and_eq_true,decide_eq_true_eq] at h;exact⟨h.2,h.1.1,h.1.2⟩
theorem XK(s:By):∀m i,s.length-i=m->(HC s i).length<=2*m
 | 0,i,h=> by rw[YK oM];exact Nat.le_refl _
 | m + 1,i,h=> by
  rw[gK oM,List.length_append];have h1:=XK s m (i+1) oM;have h2:(bJ s i).length<=2:=by
   unfold bJ fK;rw[List.length_append];split <;> split <;> simp
  omega
theorem Bk.W7 {k:Bk}(ha:k.WA=0){i:Nat}(hi:i<k.nl):(k.iQ i).length<=6:=by
 obtain⟨_,_,h⟩:=Bk.pQ ha hi;have h1:=XK (k.num i) _ 0 rfl;have h2:(k.iQ i).length<=(jI (k.num i)).length:=List.length_filterMap_le _ _;unfold jI at h2;omega
section
variable(M:Md prog)(H:View)
theorem aAO(k:Bk)(A:Option Addr)(lc:Nat)(B:Option Addr)(tc:Nat)(hk:QD H k A lc B tc)(hn:k.small)(hG:mG H)(ha:k.WA=0)(line:Nat)(hl:line<k.nl):
  fA M 55 #[k.val A lc B tc,.nt line] H (fun v H'=> H.le H'/\∃(g:Gl 3 1) (m:List Int),v=aEI g 0/\(nA 0 (k.iQ line).length (k.iQ line) m/\AF 0 (k.iQ line).length m)/\(g.n=(AB m m.length).length/\g.l=SA (AB m m.length))/\∀x∈g.bl,H' x.1=some x.2/\H x.1=none):=by
 obtain⟨MX,RZ,EJ⟩:=Bk.pQ ha hl;have oP:=hn.nl;have hhl:=Bk.W7 ha hl;have hb:=fun(H':View)=> uA M H' ((line:Nat):Int) 0 ((k.nl:Int)-1) true (decide_eq_true oM);have lA:=fun(H':View) (h':H.le H')=> oD M H' k A lc B tc (hk.le h') hn (NA hG h') ha;have zV:=hk.rows;obtain⟨_,h0|⟨ab,ao,fa,gs,gt,gz,rfl,AR,K2⟩⟩:=zV
 ·omega
 obtain⟨F,fc,f1,_,_⟩:=K2 line hl;have f2:zE false 1 gs (ao+((line:Nat):Int).toNat*3+1)=some (bA (k.num line)):=vI f1 dE;refine .en func55 ntmps55 fun St c cs hK=> ?_;refine U2 ?_;refine .bo fun b2=> ?_;refine .bo fun b3=> ?_;refine U4 ?_;refine Tc.dr [12] [] mixed rfl ?_;refine V6 0 ?_;refine .z 6 rfl (pA.tk fun H hs=> hb H) ?_;refine .z 7 rfl (pA.tk fun H hs=> lA H hs.base) ?_;refine V2 8 ?_;refine .nw 10 ?_;refine .ea 11 rfl (.al (zz:=fun b6=> ⟨S2.mk sL (.inr sL),?_⟩));refine .e 12 0 ?_;refine .nw 13 ?_;refine .dn ?_;refine iD ?_;refine .al fun b8=> ?_;refine iD ?_;refine To.YB rfl rfl rfl rfl rfl rfl dE (WB.h (mU M H (k.num line))) (fun v H₁ hv=> ?_);obtain⟨lM,sb,rfl,BC⟩:=hv;refine U ?_;have CJ:=fun(H':View) (hc:dL (k.num line) sb H')=> VQ M H' (k.num line) MX oM sb hc;refine U ?_;refine Tc.db (R':= [(2,.pt b2),(3,.pt b3),(6,.pt b6),(8,.pt b8),(31,EW sb)]) (L':= [Bb b8 [(Gl.nil 3 1).val] 24,Bb b6 ((k.val (some ⟨ab,ao,none⟩) lc B tc).cells.toList) 166,Bb b3 [.nt line] 3,Bb b2 ((k.val (some ⟨ab,ao,none⟩) lc B tc).cells.toList) 45]) ?_;refine Tc.PN (A:= []) (ts:= [32]) (xs:=jI (k.num line)) (fun rest H₄ L₄=> ∃(g:Gl 3 1) (dn:List Int),L₄= [Bb b8 [g.val] 24,Bb b6 ((k.val (some ⟨ab,ao,none⟩) lc B tc).cells.toList) 166,Bb b3 [.nt line] 3,Bb b2 ((k.val (some ⟨ab,ao,none⟩) lc B tc).cells.toList) 45]++g.bl
   /\g.l=SA dn/\dn++rest.filterMap (k.CJ line)=k.iQ line/\dL (k.num line) sb H₄/\H₁.le H₄) (fun _ _ _=> False) rfl rfl rfl rfl CJ (fun _ _=> dL.le _ _) (fun _ _ _ ⟨_,_,_,_,_,h,_⟩=> h) rfl (fun _ _=> rfl)
   ⟨Gl.nil 3 1,[],rfl,rfl,rfl,BC,View.le_refl _⟩ ?_ ?_ (fun _ _ _ _ h=> h.elim)
 ·rintro r x rest _ l tmps asg bdy H₄ _ hx ⟨g,dn,rfl,q1,q2,q3,q4⟩ Q St1 cc1 cs1 iP q q';have CK:=fun(H':View) (h':H₄.le H')=> wQ M H' k (some ⟨ab,ao,none⟩) lc B tc (hk.rows.le (View.le_trans lM (View.le_trans q4 h'))) hn.nl x;have XC:g.n=dn.length:=by have:=g.hl;rw[q1,rC] at this;omega
  have kP:dn.length<=6:=by
   have:=congrArg List.length q2;rw[List.length_append] at this;omega
  cases hlx:k.line x with
  | none=>
   rw[hlx] at CK;have e2:sB none= -1:=rfl;rw[e2] at CK;have e3:k.CJ line x=none:=by unfold Bk.CJ;rw[hlx]
   rw[List.filterMap_cons_none e3] at q2;refine U3 ?_;refine Tc.beginRound (i:=0) rfl rfl rfl ?_;refine U5 ?_;refine .cl (fun H hs=> CK H hs.base) ?_;refine AJ ?_;refine Tc.tB iP (i:=0) rfl (.inl ⟨rfl,rfl⟩) (fun H' hs=> q H' H₄ _ hs ⟨g,dn,rfl,q1,q2,q3,q4⟩)
  | some j=>
   rw[hlx] at CK;have e2:sB (some j)=(j:Nat):=rfl;rw[e2] at CK;by_cases c1:j=line
   ·have e3:k.CJ line x=none:=by unfold Bk.CJ;rw[hlx];exact if_pos c1
    rw[List.filterMap_cons_none e3] at q2;refine U3 ?_;refine Tc.beginRound (i:=0) rfl rfl rfl ?_;refine U5 ?_;refine .cl (fun H hs=> CK H hs.base) ?_;refine AJ ?_;refine Tc.tB iP (i:=0) rfl (.inl ⟨rfl,rfl⟩) (fun H' hs=> q H' H₄ _ hs ⟨g,dn,rfl,q1,q2,q3,q4⟩)
   ·have e3:k.CJ line x=some (j:Nat):=by unfold Bk.CJ;rw[hlx];exact if_neg c1
    rw[List.filterMap_cons_some e3] at q2;refine U3 ?_;refine Tc.beginRound (i:=0) rfl rfl rfl ?_;refine U5 ?_;refine .cl (fun H hs=> CK H hs.base) ?_;refine LI ?_;refine .e (.bs (zz:=fun bs=> ?_));refine .e (Or.append (E:=en) 7 rfl rfl rfl rfl rfl rfl rfl rfl rfl rfl rfl rfl rfl rfl rfl (fun H hs=> RA.of (hs.get (i:=0) rfl) Nb) rfl oM rfl dE (fun g' dI LG=> ?_));refine U3 ?_;refine Tc.tB iP (i:=1) rfl (.inl ⟨rfl,rfl⟩) (fun H' hs=> q H' H₄ _ (hs.less sL) ⟨g',dn++[((j:Nat):Int)],rfl,by rw[LG,q1];unfold SA;rw[List.map_append];rfl,by rw[List.append_assoc];exact q2,q3,q4⟩)
 ·rintro r H₄ _ ⟨g,dn,rfl,q1,q2,q3,q4⟩;have q5:dn=k.iQ line:=by rw[<-q2];simp
  subst q5;have XC:g.n=(k.iQ line).length:=by have:=g.hl;rw[q1,rC] at this;omega
  refine U4 ?_;refine .e (Or.aBP (L1:= [(r,true,.deferred (some [])),Bb b8 [g.val] 24,Bb b6 ((k.val (some ⟨ab,ao,none⟩) lc B tc).cells.toList) 166,Bb b3 [.nt line] 3,Bb b2 ((k.val (some ⟨ab,ao,none⟩) lc B tc).cells.toList) 45]) g (k.iQ line) q1 oM rfl rfl rfl rfl rfl dE (fun H Q h=> .h h) (fun g' m hv' nP qO TX ht hs'=> ?_));rw[<-hv'];rw[XC] at ht hs' nP;have jQ:m.length=(k.iQ line).length:=ht.len;refine U4 ?_;refine .e (Or.aA7 (L1:= [(r,true,.deferred (some [])),Bb b8 [g'.val] 24,Bb b6 ((k.val (some ⟨ab,ao,none⟩) lc B tc).cells.toList) 166,Bb b3 [.nt line] 3,Bb b2 ((k.val (some ⟨ab,ao,none⟩) lc B tc).cells.toList) 45]) g' m TX oM rfl rfl rfl rfl rfl dE (fun H Q h=> .h h) (fun g2 AN EJ=> ?_));rw[nP,<-jQ] at AN EJ;refine U3 ?_;refine Tc.A4 (E:=en) (i:=0) hK func55 results55 (vs:= [_,_]) rfl ⟨rfl,rfl,trivial⟩ ?_;exact fun H' hs=> ⟨View.le_trans lM (View.le_trans q4 hs.base),g2,m,rfl,⟨ht,hs'⟩,⟨AN,EJ⟩,fun x hx=> ⟨hs.at_ x (by simp[hx]),none_le (View.le_trans lM q4) (hs.out x (by simp[hx]))⟩⟩
end
def Bk.E0(k:Bk)(s:By):Bool:=(jI s).all fun x=> (k.line x).isNone
def Bk.jU(k:Bk)(s:By)(i:Nat):Bool:=(jI (k.num i)).all fun x=> !XA x s
def Bk.safe(k:Bk)(s:By):Bool:=k.E0 s&&SG (k.jU s) k.nl
def XB(s:By):Nat:=(s.map pn).sum
theorem IK(s:By)(h:s.all OC=true):XB s<=10*s.length:=by
 induction s with
 | nil=> exact Nat.le_refl _
 | cons x t ih=>
  rw[List.all_cons,Bool.and_eq_true] at h;have h1:=ih h.2;have h2:=D9 h.1;unfold XB at h1 ⊢;rw[List.map_cons,List.sum_cons,List.length_cons];omega
theorem I4 {s:By}{p:Nat}{x:UInt8}(h:s[p]? =some x):XB (s.take (p+1))=XB (s.take p)+pn x:=by
 obtain⟨hp,rfl⟩:=List.getElem?_eq_some_iff.1 h;unfold XB;rw[List.take_succ_eq_append_getElem hp,List.map_append,List.sum_append];rfl
section
variable(M:Md prog)(H:View)
theorem N9(k:Bk)(A:Option Addr)(lc:Nat)(B:Option Addr)(tc:Nat)(hk:QD H k A lc B tc)(hn:k.small)(ha:k.WA=0)(s:By)(BN:s.all OC=true)(rO:s.length<=1000):
  fA M 138 #[k.val A lc B tc,bA s] H (Ib H (.bool (k.safe s))):=by
 have oP:=hn.nl;refine .en func138 ntmps138 fun St c cs hK=> ?_;refine U2 ?_;refine .bo fun b2=> ?_;refine .bo fun b3=> ?_;refine .al fun b4=> ?_;refine U5 ?_;refine To.YB rfl rfl rfl rfl rfl rfl dE (WB.h (mU M H s)) (fun v H₁ hv=> ?_);obtain⟨lM,sb,rfl,BC⟩:=hv;refine U ?_;have CJ:=fun(H':View) (hc:dL s sb H')=> VQ M H' s BN rO sb hc;refine U ?_;refine Tc.db (R':= [(2,.pt b2),(3,.pt b3),(4,.pt b4),(10,EW sb)]) (L':= [Bb b4 [.bool false] 4,Bb b3 [bA s] 9,Bb b2 ((k.val A lc B tc).cells.toList) 166]) ?_;refine Tc.A0 (A:= []) (ts:= [11]) (xs:=jI s) (fun rest H₄=> k.E0 s=rest.all (fun x=> (k.line x).isNone)/\dL s sb H₄/\H₁.le H₄) (fun j H₄=> j=.ret/\k.E0 s=false/\H₁.le H₄) rfl rfl rfl rfl CJ (fun _ _=> dL.le _ _) (fun _ _ ⟨_,h,_⟩=> h) rfl (fun _ _=> rfl)
   ⟨rfl,BC,View.le_refl _⟩ ?_ ?_ ?_
 ·rintro r x rest _ l tmps asg bdy H₄ _ hx ⟨rfl,q2,q3,q4⟩ Q St1 cc1 cs1 iP q q';have CK:=fun(H':View) (h':H₄.le H')=> wQ M H' k A lc B tc (hk.rows.le (View.le_trans lM (View.le_trans q4 h'))) hn.nl x;rw[List.all_cons] at q2;cases hlx:k.line x with
  | none=>
   rw[hlx] at CK q2;have e2:sB none= -1:=rfl;rw[e2] at CK;refine U3 ?_;refine Tc.beginRound (i:=0) rfl rfl rfl ?_;refine U5 ?_;refine .cl (fun H hs=> CK H hs.base) ?_;refine U5 ?_;refine Tc.tB iP (i:=0) rfl (.inl ⟨rfl,rfl⟩) (fun H' hs=> q H' H₄ _ hs ⟨rfl,q2,q3,q4⟩)
  | some j=>
   rw[hlx] at CK q2;have e2:sB (some j)=(j:Nat):=rfl;rw[e2] at CK;refine U3 ?_;refine Tc.beginRound (i:=0) rfl rfl rfl ?_;refine U5 ?_;refine .cl (fun H hs=> CK H hs.base) ?_;refine U7 ?_;refine Tc.tB iP (i:=0) rfl (.inr (.inl ⟨_,rfl,rfl⟩)) (fun H' hs=> q' H' H₄ _ _ hs ⟨rfl,rfl,q2,q4⟩)
 ·rintro r H₄ ⟨q2,q3,q4⟩;have aBk:=View.le_trans lM q4;have q5:k.E0 s=true:=q2;refine Tc.marked (L:= [Bb b4 [.bool false] 4,Bb b3 [bA s] 9,Bb b2 ((k.val A lc B tc).cells.toList) 166]) (rs:= []) ?_;refine ND ?_;refine Tc.db (Tc.mY (σ:= { y:View×Nat×List Nat//H.le y.1/\y.2.1<=k.nl/\∀i,i<y.2.1->k.jU s i=true })
   (fun y=> (y.1.1,[(2,.pt b2),(3,.pt b3),(4,.pt b4),(18,.slice A k.nl lc),(19,.nt k.nl),(20,.nt y.1.2.1)],[Bb b4 [.bool false] 4,Bb b3 [bA s] 9,Bb b2 ((k.val A lc B tc).cells.toList) 166]++Mk y.1.2.2,marks y.1.2.2)) (fun y=> k.nl-y.1.2.1) ?_ ⟨(H₄,0,[r]),aBk,Nat.zero_le _,fun i hi=> absurd hi (Nat.not_lt_zero _)⟩)
  rintro⟨⟨H₅,i,rs⟩,g1,g2,g3⟩ ih;simp only at g1 g2 g3;show Tc M St _ _ H₅ _ [(2,.pt b2),(3,.pt b3),(4,.pt b4),(18,.slice A k.nl lc),(19,.nt k.nl),(20,.nt i)] ([Bb b4 [.bool false] 4,Bb b3 [bA s] 9,Bb b2 ((k.val A lc B tc).cells.toList) 166]++Mk rs) (marks rs) _;by_cases c1:i=k.nl
  ·have e:k.safe s=true:=by
    unfold Bk.safe;rw[q5,(kD k.nl).2 (by rw[<-c1];exact g3)];rfl
   subst c1;rw[e] at hK;refine ND ?_;refine Tc.J9 (E:=en) (L:= [Bb b4 [.bool true] 4,Bb b3 [bA s] 9,Bb b2 ((k.val A lc B tc).cells.toList) 166]) (rs:=rs) hK func138 results138 (vs:= [_]) (by refine⟨⟨0,_,_,_,_,_,_,_,rfl,rfl,rfl,rfl⟩,?_⟩;exact trivial) ?_;exact fun H' hs=> ⟨View.le_trans g1 hs.base,rfl⟩
  ·have c2:i<k.nl:=by omega
   obtain⟨MX,RZ,EJ⟩:=Bk.pQ ha c2;have zV:=hk.rows;obtain⟨_,h0|⟨ab,ao,fa,gs,gt,gz,rfl,AR,K2⟩⟩:=zV
   ·omega
   obtain⟨F,fc,f1,_,_⟩:=K2 i c2;have aHL:=g1 _ _ AR;refine JG ?_;refine .al fun b7=> ?_;refine U6 ?_;refine To.YB rfl rfl rfl rfl rfl rfl dE (WB.h (mU M H₅ (k.num i))) (fun v H₆ hv=> ?_);obtain⟨aCX,sb2,rfl,CV⟩:=hv;refine U ?_;have aG5:=fun(H':View) (hc:dL (k.num i) sb2 H')=> VQ M H' (k.num i) MX oM sb2 hc;refine U ?_;refine Tc.db (R':= [(2,.pt b2),(3,.pt b3),(4,.pt b4),(18,.slice (some ⟨ab,ao,none⟩) k.nl lc),(19,.nt k.nl),(20,.nt i),(26,EW sb2)]) (L':= [Bb b4 [.bool false] 4,Bb b3 [bA s] 9,Bb b2 ((k.val (some ⟨ab,ao,none⟩) lc B tc).cells.toList) 166]++Mk rs) ?_;refine Tc.A0 (A:= []) (ts:= [27]) (xs:=jI (k.num i)) (fun rest H₄=> k.jU s i=rest.all (fun x=> !XA x s)/\dL (k.num i) sb2 H₄/\H₆.le H₄) (fun j H₄=> j=.ret/\k.jU s i=false/\H₆.le H₄) rfl rfl rfl rfl aG5 (fun _ _=> dL.le _ _) (fun _ _ ⟨_,h,_⟩=> h) rfl (fun _ _=> rfl)
     ⟨rfl,CV,View.le_refl _⟩ ?_ ?_ ?_
   ·rintro r2 x rest _ l tmps asg bdy H₇ _ hx ⟨rfl,p2,p3,p4⟩ Q St1 cc1 cs1 iP q q';rw[List.all_cons] at p2;cases BV:XA x s with
    | true=>
     rw[BV] at p2;refine U3 ?_;refine Tc.beginRound (i:=0) rfl rfl rfl ?_;refine U5 ?_;refine .cl (fun H hs=> fE M H x s true BV) ?_;refine U6 ?_;refine Tc.tB iP (i:=0) rfl (.inr (.inl ⟨_,rfl,rfl⟩)) (fun H' hs=> q' H' H₇ _ _ hs ⟨rfl,rfl,p2,p4⟩)
    | false=>
     rw[BV] at p2;refine U3 ?_;refine Tc.beginRound (i:=0) rfl rfl rfl ?_;refine U5 ?_;refine .cl (fun H hs=> fE M H x s false BV) ?_;refine U4 ?_;refine Tc.tB iP (i:=0) rfl (.inl ⟨rfl,rfl⟩) (fun H' hs=> q H' H₇ _ hs ⟨rfl,p2,p3,p4⟩)
   ·rintro r2 H₇ ⟨p2,p3,p4⟩;refine Tc.marked (L:= [Bb b4 [.bool false] 4,Bb b3 [bA s] 9,Bb b2 ((k.val (some ⟨ab,ao,none⟩) lc B tc).cells.toList) 166]) (rs:=rs) ?_;refine U6 ?_;have OD:=ih ⟨(H₇,i+1,r2::rs),View.le_trans g1 (View.le_trans aCX p4),c2,fun m hm=> by
     by_cases e:m=i
     ·subst e;exact p2
     ·exact g3 m (by simp only at hm;omega)⟩ Ob
    exact Tc.db OD
   ·rintro r2 j H₇ ⟨rfl,p2,p4⟩;have e:k.safe s=false:=by
     unfold Bk.safe;rw[TG c2 p2];simp
    rw[e] at hK;refine Tc.marked (L:= [Bb b4 [.bool false] 4,Bb b3 [bA s] 9,Bb b2 ((k.val (some ⟨ab,ao,none⟩) lc B tc).cells.toList) 166]) (rs:=rs) ?_;refine Tc.J9 (E:=en) (L:= [Bb b4 [.bool false] 4,Bb b3 [bA s] 9,Bb b2 ((k.val (some ⟨ab,ao,none⟩) lc B tc).cells.toList) 166]) (rs:=r2::rs) hK func138 results138 (vs:= [_]) (by refine⟨⟨0,_,_,_,_,_,_,_,rfl,rfl,rfl,rfl⟩,?_⟩;exact trivial) ?_;exact fun H' hs=> ⟨View.le_trans g1 (View.le_trans aCX (View.le_trans p4 hs.base)),rfl⟩
 ·rintro r j H₄ ⟨rfl,q2,q4⟩;have e:k.safe s=false:=by
   unfold Bk.safe;rw[q2];rfl
  rw[e] at hK;refine Tc.A4 (E:=en) (i:=0) hK func138 results138 (vs:= [_]) rfl (by refine⟨⟨1,_,_,_,_,_,_,_,rfl,rfl,rfl,rfl⟩,?_⟩;exact trivial) ?_;exact fun H' hs=> ⟨View.le_trans lM (View.le_trans q4 hs.base),rfl⟩
def Bk.pJ(k:Bk)(s:By):Value:=
 if k.WA≠0 then .tuple ⟨[.bool false,.iz k.WA]⟩ else if isNum s=false then .tuple ⟨[.bool false,.iz 3]⟩ else if k.clash s=true then .tuple ⟨[.bool false,.iz 10]⟩ else .tuple ⟨[.bool (k.safe s),.iz 0]⟩
theorem j6(k:Bk)(A:Option Addr)(lc:Nat)(B:Option Addr)(tc:Nat)(hk:QD H k A lc B tc)(hn:k.small)(hG:mG H)(s:By)(rO:s.length<=1000):
  fA M 56 #[k.val A lc B tc,bA s] H (Ib H (k.pJ s)):=by
 by_cases ha:k.WA=0
 ·have lA:=fun(H':View) (h':H.le H')=> oD M H' k A lc B tc (hk.le h') hn (NA hG h') ha;cases h1:isNum s with
  | false=>
   have ev:k.pJ s=.tuple ⟨[.bool false,.iz 3]⟩:=by
    unfold Bk.pJ;rw[if_neg (by simp[ha]),if_pos h1]
   rw[ev];refine .en func56 ntmps56 fun St c cs hK=> ?_;refine U2 ?_;refine .bo fun b2=> ?_;refine U6 ?_;refine .cl (fun H hs=> lA H hs.base) ?_;refine U3 ?_;refine .al fun b6=> ?_;refine AJ ?_;refine .cl (fun H hs=> tH (bD M H s oM) h1) ?_;refine U9 ?_;refine .rt hK func56 results56 [_,_] ?_;exact okB
  | true=>
   have MX:s.all OC=true:=by
    unfold isNum at h1;simp only[Bool.and_eq_true] at h1;exact h1.2
   cases h2:k.clash s with
   | true=>
    have ev:k.pJ s=.tuple ⟨[.bool false,.iz 10]⟩:=by
     unfold Bk.pJ;rw[if_neg (by simp[ha]),if_neg (by simp[h1]),if_pos h2]
    rw[ev];refine .en func56 ntmps56 fun St c cs hK=> ?_;refine U2 ?_;refine .bo fun b2=> ?_;refine U6 ?_;refine .cl (fun H hs=> lA H hs.base) ?_;refine U3 ?_;refine .al fun b6=> ?_;refine AJ ?_;refine .cl (fun H hs=> tH (bD M H s oM) h1) ?_;refine U9 ?_;refine .cl (fun H hs=> tH (CF M H k A lc (hk.rows.le hs.base) hn.nl s) h2) ?_;refine U8 ?_;refine .rt hK func56 results56 [_,_] ?_;exact okB
   | false=>
    have ev:k.pJ s=.tuple ⟨[.bool (k.safe s),.iz 0]⟩:=by
     unfold Bk.pJ;rw[if_neg (by simp[ha]),if_neg (by simp[h1]),if_neg (by simp[h2])]
    rw[ev];refine .en func56 ntmps56 fun St c cs hK=> ?_;refine U2 ?_;refine .bo fun b2=> ?_;refine U6 ?_;refine .cl (fun H hs=> lA H hs.base) ?_;refine U3 ?_;refine .al fun b6=> ?_;refine AJ ?_;refine .cl (fun H hs=> tH (bD M H s oM) h1) ?_;refine U9 ?_;refine .cl (fun H hs=> tH (CF M H k A lc (hk.rows.le hs.base) hn.nl s) h2) ?_;refine U9 ?_;refine .cl (fun H hs=> N9 M H k A lc B tc (hk.le hs.base) hn ha s MX rO) ?_;refine U3 ?_;refine .rt hK func56 results56 [_,_] ?_;exact okB
 ·have ev:k.pJ s=.tuple ⟨[.bool false,.iz k.WA]⟩:=if_pos ha;rw[ev];refine .en func56 ntmps56 fun St c cs hK=> ?_;refine U2 ?_;refine .bo fun b2=> ?_;refine U6 ?_;refine .cl (fun H hs=> XI M H k A lc B tc true (hk.le hs.base) hn (NA hG hs.base) ha) ?_;refine U3 ?_;refine .al fun b6=> ?_;refine fL ?_;refine .rt hK func56 results56 [_,_] ?_;exact okB
theorem SM(s:By)(BN:s.all OC=true)(rO:s.length<=1000):fA M 45 #[bA s] H (Ib H (.int .i64 (XB s:Nat))):=by
 have hb:=IK s BN;refine .en func45 ntmps45 fun St c cs hK=> ?_;refine uH ?_;refine .e (Or.hU (E:=en) (s:=⟨⟨s⟩⟩) rfl rfl rfl rfl rfl dE (fun it=> ?_));refine U2 ?_;refine Tc.db (Tc.qA (σ:= { p:Nat//p<=s.length }) (fun p=> ([(3,.iz (XB (s.take p.1):Nat)),(7,.pt it)],[(it,true,.stringIter ⟨⟨s⟩⟩ p.1)])) (fun p=> s.length-p.1) ?_ ⟨0,Nat.zero_le _⟩);rintro⟨p,hp⟩ ih;dsimp only;have aHW:XB (s.take p)<=10*p:=by
  have h1:(s.take p).all OC=true:=List.all_eq_true.2 fun x hx=> List.all_eq_true.1 BN x (List.mem_of_mem_take hx);have h2:=IK (s.take p) h1;rw[List.length_take] at h2;omega
 by_cases c1:p=s.length
 ·subst c1;have l5:¬s.length<(ByteArray.mk ⟨s⟩).size:=by show ¬s.length<s.length;omega
  rw[List.take_length];refine U2 ?_;refine .e (Or.ZT 0 rfl rfl rfl l5 rfl dE ?_);refine iD ?_;refine .rt hK func45 results45 [_] ?_;exact okB
 ·have c2:p<s.length:=by omega
  obtain⟨x,hx,hdx,MK⟩:=nT s p c2 BN;have hpn:=D9 hdx;have EU:p<(ByteArray.mk ⟨s⟩).size:=c2;have ha:iA .add .i64 (XB (s.take p):Nat) (pn x:Nat)=some (.int .i64 ((XB (s.take (p+1)):Nat):Int)):=by
   rw[pB oM oM,I4 hx];rfl
  refine U2 ?_;refine .e (Or.CQ 0 rfl rfl rfl EU MK rfl dE ?_);refine MF ?_;refine .cl (fun H hs=> KQ M H x hdx) ?_;refine U4 ?_;exact Tc.db (ih ⟨p+1,oM⟩ Ob)
def AM(s:By):Value:=if isNum s=false then .tuple ⟨[.iz 0,.iz 3]⟩ else .tuple ⟨[.iz (XB s:Nat),.iz 0]⟩
theorem a6(s:By)(rO:s.length<=1000):fA M 13 #[bA s] H (Ib H (AM s)):=by
 cases h1:isNum s with
 | false=>
  have ev:AM s=.tuple ⟨[.iz 0,.iz 3]⟩:=if_pos h1;rw[ev];refine .en func13 ntmps13 fun St c cs hK=> ?_;refine U9 ?_;refine .cl (fun H hs=> tH (bD M H s oM) h1) ?_;refine U8 ?_;refine .rt hK func13 results13 [_,_] ?_;exact okB
 | true=>
  have MX:s.all OC=true:=by
   unfold isNum at h1;simp only[Bool.and_eq_true] at h1;exact h1.2
  have ev:AM s=.tuple ⟨[.iz (XB s:Nat),.iz 0]⟩:=if_neg (by simp[h1]);rw[ev];refine .en func13 ntmps13 fun St c cs hK=> ?_;refine U9 ?_;refine .cl (fun H hs=> tH (bD M H s oM) h1) ?_;refine U7 ?_;refine .cl (fun H hs=> SM M H s MX rO) ?_;refine U3 ?_;refine .rt hK func13 results13 [_,_] ?_;exact okB
end
def vD(dg:By):Nat->By->List By
 | 0,s=> [s]
 | d+1,s=> dg.flatMap fun x=> vD dg d (s++[x])
def gN(dg:By)(many:Nat):List By:=vD dg many []
theorem cT(dg:By)(d:Nat)(s:By){p:Nat}{x:UInt8}(h:dg[p]? =some x):(dg.drop p).flatMap (fun x=> vD dg d (s++[x]))=vD dg d (s++[x])++(dg.drop (p+1)).flatMap (fun x=> vD dg d (s++[x])):=by
 obtain⟨hp,rfl⟩:=List.getElem?_eq_some_iff.1 h;rw[List.drop_eq_getElem_cons hp,List.flatMap_cons]
def ZU(b1 b2:Nat):Value:=.func (.func 225) #[] #[.pt b1,.pt b2]
def k9(b1 b3 b2 b4:Nat):Value:=.func (.func 226) #[] #[.pt b1,.pt b3,.pt b2,.pt b4]
structure aN(many:Nat)(dg:By)(b1 b2:Nat)(H:View):Prop where
 a:∃f,H b1=some (f,.cells ⟨[.nt many]⟩ 3 (0,0))
 b:∃f,H b2=some (f,.cells ⟨[bA dg]⟩ 9 (0,0))
theorem aN.le {many:Nat}{dg:By}{b1 b2:Nat}(H H':View)(h:H.le H')(c:aN many dg b1 b2 H):aN many dg b1 b2 H':=⟨c.a.imp fun _ e=> h _ _ e,c.b.imp fun _ e=> h _ _ e⟩
def BQ(l b1 b2 b3 b4:Nat):Bl:= [Bb b4 [k9 b1 b3 b2 b4] 101,Bb b3 [.func (.yield l) #[] #[]] 101]
section
variable(M:Md prog)(H:View)
theorem aEV(many:Nat)(dg:By):fA M 139 #[.nt many,bA dg] H (fun v H'=> H.le H'/\∃b1 b2,v=ZU b1 b2/\aN many dg b1 b2 H'):=by
 refine .en func139 ntmps139 fun St c cs hK=> ?_;refine U2 ?_;refine .bo fun b2=> ?_;refine .bo fun b3=> ?_;refine U7 ?_;refine .rt hK func139 results139 [_] ?_;exact fun H' hs=> ⟨hs.base,b2,b3,rfl,⟨true,hs.get (i:=1) rfl⟩,⟨true,hs.get (i:=0) rfl⟩⟩
theorem aDh(many:Nat)(dg:By)(hm:many<=1000)(MX:dg.all OC=true)(kP:dg.length<=1000)(l b1 b2 b3 b4:Nat)(xs:List By)(J:List By->View->Prop)(D:View->Prop)(BC:∀rest H',J rest H'->aN many dg b1 b2 H')
  (hy:∀x rest (_:Unit) H' H'',x∈xs->J (x::rest) H'->jA H' [] H''->WB M (.func (.yield l) #[] #[]) [bA x] H'' fun v H3=> (v=.bool true/\∃H₂,jA H₂ [] H3/\J rest H₂)\/(v=.bool false/\D H3)):
  ∀ (d:Nat) (s:By) (rest:List By) (H₁ Hc:View),s.length+d=many->J (vD dg d s++rest) H₁->(∀x∈vD dg d s,x∈xs)->jA H₁ (BQ l b1 b2 b3 b4) Hc-> 
   fA M 226 #[bA s,.pt b1,.pt b3,.pt b2,.pt b4] Hc (fun v H3=> (v=.bool true/\∃H₂,jA H₂ (BQ l b1 b2 b3 b4) H3/\J rest H₂)\/(v=.bool false/\∃H₂,H₂.le H3/\D H₂)):=by
 intro d;induction d with
 | zero=>
  intro s rest H₁ Hc hsd hJ BR NT;obtain⟨⟨fa,ha⟩,⟨fb,hb⟩⟩:=BC _ _ hJ;refine fA.enter (vs:= [bA s,.pt b1,.pt b3,.pt b2,.pt b4]) func226 rfl ntmps226 Nb (NT) fun St c cs hK=> ?_;unfold BQ;refine II ?_;refine To.YB rfl rfl rfl rfl rfl rfl dE (hy s rest () H₁ H₁ (BR s (by simp[vD])) hJ (jA.nil H₁)) (fun v H₃ hv=> ?_);rcases hv with ⟨rfl,H4,h8,j3⟩|⟨rfl,hD⟩
  ·refine To.lower h8.base ?_;refine U2 ?_;refine .rt hK func226 results226 [_] ?_;exact fun H' hs=> .inl ⟨rfl,H4,hs,j3⟩
  ·refine U2 ?_;refine .rt hK func226 results226 [_] ?_;exact fun H' hs=> .inr ⟨rfl,H₃,hs.base,hD⟩
 | succ d ihd=>
  intro s rest H₁ Hc hsd hJ BR NT;obtain⟨⟨fa,ha⟩,⟨fb,hb⟩⟩:=BC _ _ hJ;refine fA.enter (vs:= [bA s,.pt b1,.pt b3,.pt b2,.pt b4]) func226 rfl ntmps226 Nb (NT) fun St c cs hK=> ?_;unfold BQ;refine fL ?_;refine .e (Or.hU (E:=en) (s:=⟨⟨dg⟩⟩) rfl rfl rfl rfl rfl dE (fun it=> ?_));refine U2 ?_;refine Tc.db (Tc.aK (σ:= { x:Nat×View//x.1<=dg.length/\J ((dg.drop x.1).flatMap (fun y=> vD dg d (s++[y]))++rest) x.2 })
   (fun x=> (x.1.2,[(0,bA s),(1,.pt b1),(2,.pt b3),(3,.pt b2),(4,.pt b4),(16,.pt it)],[(it,true,.stringIter ⟨⟨dg⟩⟩ x.1.1),Bb b4 [k9 b1 b3 b2 b4] 101,Bb b3 [.func (.yield l) #[] #[]] 101])) (fun x=> dg.length-x.1.1) ?_ ⟨(0,H₁),Nat.zero_le _,hJ⟩)
  rintro⟨⟨p,H₂⟩,g1,j1⟩ ih;simp only at g1 j1;dsimp only;by_cases c1:p=dg.length
  ·subst c1;have l5:¬dg.length<(ByteArray.mk ⟨dg⟩).size:=by show ¬dg.length<dg.length;omega
   rw[List.drop_length] at j1;refine U2 ?_;refine .e (Or.ZT 0 rfl rfl rfl l5 rfl dE ?_);refine U9 ?_;refine .rt hK func226 results226 [_] ?_;exact fun H' hs=> .inl ⟨rfl,H₂,hs.less sL,j1⟩
  ·have c2:p<dg.length:=by omega
   obtain⟨x,hx,hdx,MK⟩:=nT dg p c2 MX;have EU:p<(ByteArray.mk ⟨dg⟩).size:=c2;obtain⟨⟨fa,ha⟩,⟨fb,hb⟩⟩:=BC _ _ j1;rw[cT dg d s hx,List.append_assoc] at j1;have aG3:∀y∈vD dg d (s++[x]),y∈xs:=fun y hyy=> BR y (List.mem_flatMap.2 ⟨x,List.mem_of_getElem? hx,hyy⟩);have e2:(dg.drop ((p:Nat):Int).toNat).take ((((p:Nat):Int)+1).toNat-((p:Nat):Int).toNat)= [x]:=by
    rw[show(((p:Nat):Int)+1).toNat-((p:Nat):Int).toNat=1 by omega,Int.toNat_natCast];obtain⟨hp',rfl⟩:=List.getElem?_eq_some_iff.1 hx;rw[List.drop_eq_getElem_cons hp'];rfl
   refine U2 ?_;refine .e (Or.CQ 0 rfl rfl rfl EU MK rfl dE ?_);refine uH ?_;refine Tc.drC [] [8] [] mixed rfl ?_;refine .oo 0 ?_;refine .oo 1 ?_;refine .oo 2 ?_;refine .oo 3 ?_;refine .oo 4 ?_;refine .oo 5 ?_;refine Ta.MY 6 kR rfl rfl dE rfl rfl (pA.take (pA.pD (E:=en) rfl rfl rfl rfl rfl rfl oM oM oM)) ?_;refine Ta.MY 7 kR rfl rfl dE rfl rfl (pA.take (pA.LB rfl rfl rfl (by exact UB (by simp <;> omega)))) ?_;rw[e2];refine Ta.lift (L₂:= [(it,true,.stringIter ⟨⟨dg⟩⟩ (p+1))]) (L₁:=BQ l b1 b2 b3 b4) rfl (fun Hx y8=> ?_);refine Ta.YB 8 kR rfl kR rfl rfl rfl rfl rfl rfl dE (WB.of (first:= []) (captured:= [_,_,_,_]) aCb rfl (ihd (s++[x]) _ H₂ Hx (by rw[List.length_append];show s.length+1+d=many;omega) j1 aG3 y8)) (fun v H₃ hv=> ?_);rcases hv with ⟨rfl,H4,h8,j3⟩|⟨rfl,H4,hl4,hD⟩
   ·refine Ta.expand h8 ?_;unfold BQ;refine .ea 9 rfl (Or.uS .nt rfl dE ⟨S3.off kR,?_⟩);refine .dn ?_;refine U3 ?_;exact Tc.db (ih ⟨(p+1,H4),by simp only;omega,j3⟩ Ob)
   ·refine .ea 9 rfl (Or.uS .nt rfl dE ⟨S3.off kR,?_⟩);refine .dn ?_;refine U5 ?_;refine .rt hK func226 results226 [_] ?_;exact fun H' hs=> .inr ⟨rfl,H4,View.le_trans hl4 hs.base,hD⟩
theorem B6(many:Nat)(dg:By)(hm:many<=1000)(MX:dg.all OC=true)(kP:dg.length<=1000)(b1 b2:Nat):
  TU M (ZU b1 b2) (gN dg many) (fun x (_:Unit)=> [bA x]) (fun _ _=> []) (fun _ _=> []) (aN many dg b1 b2) [] H:=fun l J D BC h0 hy H₀ fF=> by
 refine WB.of (first:= []) (captured:= [_,_]) aFc rfl ?_;refine fA.enter (vs:= [.func (.yield l) #[] #[],.pt b1,.pt b2]) func225 rfl ntmps225 Nb (fF) fun St c cs hK=> ?_;refine U2 ?_;refine .bo fun b3=> ?_;refine U3 ?_;refine .al fun b4=> ?_;refine U8 ?_;refine To.lift (L₂:= []) (L₁:=BQ l b1 b2 b3 b4) rfl (fun Hx hx=> ?_);refine To.YB rfl rfl rfl rfl rfl rfl dE (WB.of (first:= []) (captured:= [_,_,_,_]) aCb rfl (aDh M many dg hm MX kP l b1 b2 b3 b4 (gN dg many) J D BC (fun x rest e H' H'' h1 h2 h3=> hy x rest e H' H'' h1 h2 h3) many [] [] H Hx (Nat.zero_add _) (by rw[List.append_nil];exact h0) (fun x hx=> hx) hx)) (fun v H₃ hv=> ?_);refine U ?_;refine .ov hK func225 results225 [] ?_;intro H' hs;rcases hv with ⟨_,H4,h8,j3⟩|⟨_,H4,hl4,hD⟩
 ·exact⟨H4,View.le_trans h8.base hs.base,.inl j3⟩
 ·exact⟨H4,View.le_trans hl4 hs.base,.inr hD⟩
end
theorem yO {dg:By}:∀(d:Nat) (s x:By),x∈vD dg d s->x.length=s.length+d/\∀y∈x,y∈s\/y∈dg
 | 0,s,x,h=> by
  have:x=s:=by simpa [vD] using h
  subst this;exact⟨rfl,fun y hy=> .inl hy⟩
 | d + 1,s,x,h=> by
  obtain⟨z,hz,h2⟩:=List.mem_flatMap.1 h;obtain⟨h3,h4⟩:=yO d _ x h2;refine⟨by rw[h3,List.length_append];show s.length+1+d=_;omega,fun y hy=> ?_⟩;rcases h4 y hy with h5|h5
  ·rcases List.mem_append.1 h5 with h6|h6
   ·exact .inl h6
   ·have:y=z:=by simpa using h6
    subst this;exact .inr hz
  ·exact .inr h5
theorem eW {dg:By}{n:Nat}{x:By}(h:x∈gN dg n):x.length=n/\∀y∈x,y∈dg:=by
 obtain⟨h1,h2⟩:=yO n [] x h;exact⟨by simpa using h1,fun y hy=> (h2 y hy).resolve_left (by simp)⟩
theorem sV:cM.all OC=true:=by decide +kernel
def Bk.TF(k:Bk)(sf:Bool)(x:By):Bool:=!k.clash x&&(!sf||k.safe x)
def Bk.spare(k:Bk)(n:Nat)(sf:Bool):Option By:=(gN cM n).find? (k.TF sf)
def oH(x:By)(t:Bool)(a:Int):Value:=.tuple ⟨[bA x,.bool t,.iz a]⟩
def Bk.iK(k:Bk)(z:Int)(sf:Bool):Value:=
 if k.WA≠0 then oH [] false k.WA else if ¬(1<=z/\z<=3) then oH [] false 1 else match k.spare z.toNat sf with
  | some x=> oH x true 0
  | none=> oH [] false 0
section
variable(M:Md prog)(H:View)
theorem aAS(k:Bk)(A:Option Addr)(lc:Nat)(B:Option Addr)(tc:Nat)(hk:QD H k A lc B tc)(hn:k.small)(hG:mG H)(z:Int)(sf:Bool):
  fA M 57 #[k.val A lc B tc,.iz z,.bool sf] H (Ib H (k.iK z sf)):=by
 by_cases ha:k.WA=0
 ·have lA:=fun(H':View) (h':H.le H')=> oD M H' k A lc B tc (hk.le h') hn (NA hG h') ha;by_cases c1:1<=z/\z<=3
  ·obtain ⟨n,rfl⟩:∃n:Nat,z=n:=⟨z.toNat,oM⟩
   have ev:k.iK (n:Nat) sf=match k.spare n sf with
     | some x=> oH x true 0
     | none=> oH [] false 0:=by
    unfold Bk.iK;rw[if_neg (by simp[ha]),if_neg (fun h=> h c1)];rfl
   have hbt:=fun(H':View)=> uA M H' ((n:Nat):Int) 1 3 true (decide_eq_true c1);refine .en func57 ntmps57 fun St c cs hK=> ?_;refine U2 ?_;refine .bo fun b3=> ?_;refine .bo fun b5=> ?_;refine .al fun b6=> ?_;refine .al fun b7=> ?_;refine .al fun b8=> ?_;refine U4 ?_;refine .cl (fun H hs=> lA H hs.base) ?_;refine U3 ?_;refine .al fun b9=> ?_;refine AJ ?_;refine .cl (fun H hs=> hbt H) ?_;refine iD ?_;refine To.YB rfl rfl rfl rfl rfl rfl dE (WB.h (aEV M H n cM)) (fun v H₁ hv=> ?_);obtain⟨lM,a1,a2,rfl,BC⟩:=hv;refine U ?_;have CJ:=fun(H':View) (_:aN n cM a1 a2 H')=> B6 M H' n cM oM sV dE a1 a2;refine U ?_;refine Tc.db (R':= [(3,.pt b3),(5,.pt b5),(6,.pt b6),(7,.pt b7),(8,.pt b8),(9,.pt b9),(25,ZU a1 a2)])
    (L':= [Bb b9 ((k.val A lc B tc).cells.toList) 166,Bb b8 [.iz 0] 25,Bb b7 [.bool false] 4,Bb b6 [bA []] 9,Bb b5 [.bool sf] 4,Bb b3 ((k.val A lc B tc).cells.toList) 45]) ?_
   refine Tc.PN (A:= []) (ts:= [26]) (xs:=gN cM n) (fun rest H₄ L₄=> L₄= [Bb b9 ((k.val A lc B tc).cells.toList) 166,Bb b8 [.iz 0] 25,Bb b7 [.bool false] 4,Bb b6 [bA []] 9,Bb b5 [.bool sf] 4,Bb b3 ((k.val A lc B tc).cells.toList) 45]
     /\k.spare n sf=rest.find? (k.TF sf)/\aN n cM a1 a2 H₄/\H₁.le H₄)
     (fun j H₄ L₄=> ∃x,L₄= [Bb b9 ((k.val A lc B tc).cells.toList) 166,Bb b8 [.iz 0] 25,Bb b7 [.bool true] 4,Bb b6 [bA x] 9,Bb b5 [.bool sf] 4,Bb b3 ((k.val A lc B tc).cells.toList) 45]/\j=.ret/\k.spare n sf=some x/\H₁.le H₄)
     rfl rfl rfl rfl CJ (fun _ _=> aN.le _ _) (fun _ _ _ ⟨_,_,h,_⟩=> h) rfl (fun _ _=> rfl) ⟨rfl,rfl,BC,View.le_refl _⟩ ?_ ?_ ?_
   ·rintro r x rest _ l tmps asg bdy H₄ _ hx ⟨rfl,q2,q3,q4⟩ Q St1 cc1 cs1 iP q q';have aBk:=View.le_trans lM q4;obtain⟨bX,hxd⟩:=eW hx;have aFK:x.all OC=true:=List.all_eq_true.2 fun y hy=> List.all_eq_true.1 sV y (hxd y hy);have iB:=fun(H':View) (h':H₄.le H')=> CF M H' k A lc (hk.rows.le (View.le_trans aBk h')) hn.nl x;have hsf:=fun(H':View) (h':H₄.le H')=> N9 M H' k A lc B tc (hk.le (View.le_trans aBk h')) hn ha x aFK oM;rw[List.find?_cons] at q2;cases h1:k.clash x with
    | true=>
     have e1:k.TF sf x=false:=by unfold Bk.TF;rw[h1];rfl
     rw[e1] at q2;rw[h1] at iB;refine U3 ?_;refine Tc.beginRound (i:=0) rfl rfl rfl ?_;refine U4 ?_;refine .x (.ld 7) ?_;refine U ?_;refine .cl (fun H hs=> iB H hs.base) ?_;refine U5 ?_;refine To.LA rfl dE rfl ?_;refine To.LA rfl dE rfl ?_;refine To.LA rfl dE rfl ?_;refine U6 ?_;refine Tc.tB iP (i:=0) rfl (.inl ⟨rfl,rfl⟩) (fun H' hs=> q H' H₄ _ hs ⟨rfl,q2,q3,q4⟩)
    | false=>
     rw[h1] at iB;cases sf with
     | false=>
      have e1:k.TF false x=true:=by unfold Bk.TF;rw[h1];rfl
      rw[e1] at q2;refine U3 ?_;refine Tc.beginRound (i:=0) rfl rfl rfl ?_;refine U4 ?_;refine .x (.ld 7) ?_;refine U ?_;refine .cl (fun H hs=> iB H hs.base) ?_;refine XU ?_;refine Tc.tB iP (i:=0) rfl (.inr (.inl ⟨_,rfl,rfl⟩)) (fun H' hs=> q' H' H₄ _ _ hs ⟨x,rfl,rfl,q2,q4⟩)
     | true=>
      cases h2:k.safe x with
      | true=>
       have e1:k.TF true x=true:=by unfold Bk.TF;rw[h1,h2];rfl
       rw[e1] at q2;rw[h2] at hsf;refine U3 ?_;refine Tc.beginRound (i:=0) rfl rfl rfl ?_;refine U4 ?_;refine .x (.ld 7) ?_;refine U ?_;refine .cl (fun H hs=> iB H hs.base) ?_;refine U7 ?_;refine .cl (fun H hs=> hsf H hs.base) ?_;refine ND ?_;refine Tc.tB iP (i:=0) rfl (.inr (.inl ⟨_,rfl,rfl⟩)) (fun H' hs=> q' H' H₄ _ _ hs ⟨x,rfl,rfl,q2,q4⟩)
      | false=>
       have e1:k.TF true x=false:=by unfold Bk.TF;rw[h1,h2];rfl
       rw[e1] at q2;rw[h2] at hsf;refine U3 ?_;refine Tc.beginRound (i:=0) rfl rfl rfl ?_;refine U4 ?_;refine .x (.ld 7) ?_;refine U ?_;refine .cl (fun H hs=> iB H hs.base) ?_;refine U7 ?_;refine .cl (fun H hs=> hsf H hs.base) ?_;refine U6 ?_;refine Tc.tB iP (i:=0) rfl (.inl ⟨rfl,rfl⟩) (fun H' hs=> q H' H₄ _ hs ⟨rfl,q2,q3,q4⟩)
   ·rintro r H₄ _ ⟨rfl,q2,q3,q4⟩;have e1:k.spare n sf=none:=q2;rw[ev,e1] at hK;refine U7 ?_;refine Tc.A4 (E:=en) (i:=0) hK func57 results57 (vs:= [_,_,_]) rfl (by refine⟨⟨4,_,_,_,_,_,_,_,rfl,rfl,rfl,rfl⟩,?_⟩;refine⟨⟨3,_,_,_,_,_,_,_,rfl,rfl,rfl,rfl⟩,?_⟩;refine⟨⟨2,_,_,_,_,_,_,_,rfl,rfl,rfl,rfl⟩,?_⟩;exact trivial) ?_;exact fun H' hs=> ⟨View.le_trans lM (View.le_trans q4 hs.base),rfl⟩
   ·rintro r j H₄ _ ⟨x,rfl,rfl,q2,q4⟩;rw[ev,q2] at hK;refine Tc.A4 (E:=en) (i:=0) hK func57 results57 (vs:= [_,_,_]) rfl (by refine⟨⟨4,_,_,_,_,_,_,_,rfl,rfl,rfl,rfl⟩,?_⟩;refine⟨⟨3,_,_,_,_,_,_,_,rfl,rfl,rfl,rfl⟩,?_⟩;refine⟨⟨2,_,_,_,_,_,_,_,rfl,rfl,rfl,rfl⟩,?_⟩;exact trivial) ?_;exact fun H' hs=> ⟨View.le_trans lM (View.le_trans q4 hs.base),rfl⟩
  ·have ev:k.iK z sf=oH [] false 1:=by
    unfold Bk.iK;rw[if_neg (by simp[ha]),if_pos c1]
   have hbt:=fun(H':View)=> uA M H' z 1 3 false (decide_eq_false c1);rw[ev];refine .en func57 ntmps57 fun St c cs hK=> ?_;refine U2 ?_;refine .bo fun b3=> ?_;refine .bo fun b5=> ?_;refine .al fun b6=> ?_;refine .al fun b7=> ?_;refine .al fun b8=> ?_;refine U4 ?_;refine .cl (fun H hs=> lA H hs.base) ?_;refine U3 ?_;refine .al fun b9=> ?_;refine AJ ?_;refine .cl (fun H hs=> hbt H) ?_;refine iD ?_;refine .rt hK func57 results57 [_,_,_] ?_;exact okB
 ·have ev:k.iK z sf=oH [] false k.WA:=if_pos ha;rw[ev];refine .en func57 ntmps57 fun St c cs hK=> ?_;refine U2 ?_;refine .bo fun b3=> ?_;refine .bo fun b5=> ?_;refine .al fun b6=> ?_;refine .al fun b7=> ?_;refine .al fun b8=> ?_;refine U4 ?_;refine .cl (fun H hs=> XI M H k A lc B tc true (hk.le hs.base) hn (NA hG hs.base) ha) ?_;refine U3 ?_;refine .al fun b9=> ?_;refine JG ?_;refine Tc.drE [3] [1,2,3] [2,3] mixed rfl ?_;refine .nn 0 ?_;refine .ea 1 rfl (.st 3 (zz:=⟨S2.mk sL (.inr sL),?_⟩));refine .ea 2 rfl (.st 2 (zz:=⟨S2.mk sL (.inr sL),?_⟩));refine .e 3 1 ?_;refine .dn ?_;refine .rt hK func57 results57 [_,_,_] ?_;exact okB
end
end Go.Proofs.YtldmfjcgjdchcaaGreatDoor
namespace Go.RL
open Go.Conc
section
variable {P:Program}{E:Env P}{M:Md P}{n:Nat}{H₀:View}{R:Rg}{L:Bl}{o:Oper}{K:Rg->Bl->Prop}{d:Nat}
theorem Gl.bG {e:TypeId}{sz:Nat}(g:Gl e sz):(g.bl.map (·.1)).Nodup:=by
 unfold Gl.bl;split <;> simp
theorem Or.lZ(k:Nat){cl:Go.Call}{x y:Operand}{t xt e:TypeId}{sz m:Nat}{yv:Value}{new:List Value}{g:Gl e sz}{r re rx:FA}{ex:TypeId}(lA:o.op=.call cl)(iB:cl.callee=.builtin .append)(uG:cl.argTypes=#[t,xt])(sI:cl.args=#[x,y])
  (hx:JA R x=some g.val) (hy:JA R y=some yv) (ht:E.ty t=some r) (jC:r.ds=.slice e) (BD:E.ty e=some re) (yE:re.size=sz) (SV:Nat.beq re.zero.cells.toList.length sz=true) (RV:E.ty xt=some rx) (hex:rx.ds=.slice ex) (LX:Nat.ble re.bytes 1000=true)
  (hL:L.drop k=g.bl) (eH:∀H,jA H₀ L H->RA H sz yv m new) (hs:new.all single=true) (hm:g.n+m<=1000000000) (hd:o.dst=some d) (hn:d<n)
  (Z4:∀g':Gl e sz,g'.n=g.n+m->g'.l=g.l++new->g'.blk=g.blk->g'.cap=g.cap->K ((d,g'.val)::R) (L.take k++g'.bl))
  (DU:∀g':Gl e sz,g'.n=g.n+m->g'.l=g.l++new->K ((d,g'.val)::R) (L++g'.bl)):Or M n H₀ R L o K:=
 .val hd hn fun H tmps aC hr=> by
  have hLe:L=L.take k++g.bl:=by rw[<-hL,List.take_append_drop]
  have ZO:=aC;unfold execOp;rw[lA];simp only[resolve,iB,uG,sI];have VX:Array.map (OB tmps) #[x,y]=#[g.val,yv]:=by simp[hr.ev hx,hr.ev hy]
  rw[VX];rw[hLe] at aC;refine aA (Builtin.append_ #[t,xt] o.type #[g.val,yv]) _ ?_;refine JO ht jC BD yE (Nat.eq_of_beq_eq_true SV) ⟨rx,ex,RV,hex⟩ (Nat.le_of_ble_eq_true LX) hm (fun z hz=> aC.at_ z (by simp[hz])) (eH H ZO) hs fun g' H' h1 h2 h3 h4 h5=> ?_;cases hb:g'.blk with
  | none=>
   have vJ:g'.bl= []:=by unfold Gl.bl;rw[hb]
   have hHH:H'=H:=funext fun c=> h4 c (fun b BJ=> by rw[hb] at BJ;cases BJ);subst hHH;refine⟨_,rfl,L,ZO,?_⟩;have:=DU g' h1 h2
   rwa [vJ,List.append_nil] at this
  | some b=>
   rcases h3 b hb with ⟨h6,h7⟩|h6
   ·exact⟨_,rfl,_,aC.grown (fun b BJ=> (h3 b BJ).imp And.left id) h4 h5,Z4 g' h1 h2 (hb.trans h6.symm) h7⟩
   ·have vJ:g'.bl= [Bb b (g'.l++g'.jB) e]:=by unfold Gl.bl;rw[hb]
    have hle:H.le H':=fun c z hc=> by
     rw[h4 c (fun b' qO=> by
      rw[hb] at qO;cases qO
      rintro rfl;rw[h6] at hc;cases hc)]
     exact hc
    refine⟨_,rfl,_,ZO.more hle g'.bG (fun y hy=> ⟨h5 y hy,?_⟩),DU g' h1 h2⟩;rw[vJ,List.mem_singleton] at hy;subst hy;exact h6
end
end Go.RL
namespace Go.Proofs.YtldmfjcgjdchcaaGreatDoor
open Go.RL Go.Proofs.Tryz
set_option maxRecDepth 10000
set_option maxHeartbeats 16000000
def ZB(H:View)(F:Option Addr)(n:Nat)(x:Nat->By):Prop:=
 n=0\/∃b o f gs gt gz,F=some ⟨b,o,none⟩/\H b=some (f,.cells ⟨gs⟩ gt gz)/\∀j:Nat,j<n->zE false 1 gs (o+(j:Int).toNat*1)=some (bA (x j))
theorem ZB.le {H H':View}{F:Option Addr}{n:Nat}{x:Nat->By}(h:ZB H F n x)(k:H.le H'):ZB H' F n x:=
 h.imp id fun⟨b,o,f,gs,gt,gz,h1,h2,h3⟩=> ⟨b,o,f,gs,gt,gz,h1,k _ _ h2,h3⟩
def zF(x:Int):Bool:=decide (0<=x/\x<=99)
section
variable(M:Md prog)(H:View)
theorem K5(F:Option Addr)(n fc:Nat)(x:Nat->Int)(hF:PB H F n x)(hn:n<=1000000)(fv:Value)(p:Nat->Bool)(hp:∀j,j<n->∀H',H.le H'->WB M fv [.iz (x j)] H' fun v H''=> H'.le H''/\v=.bool (p j)):
  fA M 187 #[.slice F n fc,fv] H (Ib H (.int .i64 (sB (kA p n)))):=by
 refine .en func187 ntmps187 fun St c cs hK=> ?_;refine uH ?_;refine Tc.db (Tc.qA (σ:= { j:Nat//j<=n/\kA p j=none }) (fun j=> ([(0,.slice F n fc),(1,fv),(7,.nt n),(8,.nt j.1)],[])) (fun j=> n-j.1) ?_ ⟨0,Nat.zero_le _,rfl⟩);rintro⟨j,hj,gB⟩ ih;dsimp only;by_cases c1:j=n
 ·subst c1;rw[gB] at hK;refine ND ?_;refine .rt hK func187 results187 [_] ?_;exact okB
 ·have c2:j<n:=by omega
  obtain h0|⟨ab,ao,f,gs,gt,gz,rfl,hb,hl⟩:=hF
  ·omega
  have f1:=hl j c2;have qP:=hp j c2;cases CG:p j with
  | true=>
   rw[CG] at qP;have e:kA p n=some j:=mB (j:=j+1) (by simp[kA,gB,CG]) _ oM;rw[e] at hK;refine fN ?_;refine .c rfl rfl rfl rfl (fun H hs=> qP H hs.base) ?_;refine U7 ?_;refine .rt hK func187 results187 [_] ?_;exact okB
  | false=>
   rw[CG] at qP;refine fN ?_;refine .c rfl rfl rfl rfl (fun H hs=> qP H hs.base) ?_;refine U8 ?_;exact Tc.db (ih ⟨j+1,oM,by simp[kA,gB,CG]⟩ Ob)
theorem NU(F:Option Addr)(n fc:Nat)(x:Nat->Int)(hF:PB H F n x)(hn:n<=1000000)(fv:Value)(p:Nat->Bool)(hp:∀j,j<n->∀H',H.le H'->WB M fv [.iz (x j)] H' fun v H''=> H'.le H''/\v=.bool (p j)):
  fA M 112 #[.slice F n fc,fv] H (Ib H (.bool (kA p n).isSome)):=by
 have hi:=fun(H':View) (h':H.le H')=> K5 M H' F n fc x (hF.le h') hn fv p (fun j hj H'' h''=> hp j hj H'' (View.le_trans h' h''));cases hq:kA p n with
 | none=>
  rw[hq] at hi;have e:sB none= -1:=rfl;rw[e] at hi;refine .en func112 ntmps112 fun St c cs hK=> ?_;refine U8 ?_;refine .cl (fun H hs=> hi H hs.base) ?_;refine U3 ?_;refine .rt hK func112 results112 [_] ?_;exact okB
 | some j=>
  rw[hq] at hi;have e:sB (some j)=(j:Nat):=rfl;rw[e] at hi;refine .en func112 ntmps112 fun St c cs hK=> ?_;refine U8 ?_;refine .cl (fun H hs=> hi H hs.base) ?_;refine U3 ?_;refine .rt hK func112 results112 [_] ?_;exact okB
theorem M5(F:Option Addr)(n fc:Nat)(x:Nat->By)(hF:ZB H F n x)(hn:n<=1000000)(fv:Value)(p:Nat->Bool)(hp:∀j,j<n->∀H',H.le H'->WB M fv [bA (x j)] H' fun v H''=> H'.le H''/\v=.bool (p j)):
  fA M 227 #[.slice F n fc,fv] H (Ib H (.int .i64 (sB (kA p n)))):=by
 refine .en func227 ntmps227 fun St c cs hK=> ?_;refine uH ?_;refine Tc.db (Tc.qA (σ:= { j:Nat//j<=n/\kA p j=none }) (fun j=> ([(0,.slice F n fc),(1,fv),(7,.nt n),(8,.nt j.1)],[])) (fun j=> n-j.1) ?_ ⟨0,Nat.zero_le _,rfl⟩);rintro⟨j,hj,gB⟩ ih;dsimp only;by_cases c1:j=n
 ·subst c1;rw[gB] at hK;refine ND ?_;refine .rt hK func227 results227 [_] ?_;exact okB
 ·have c2:j<n:=by omega
  obtain h0|⟨ab,ao,f,gs,gt,gz,rfl,hb,hl⟩:=hF
  ·omega
  have f1:=hl j c2;have qP:=hp j c2;cases CG:p j with
  | true=>
   rw[CG] at qP;have e:kA p n=some j:=mB (j:=j+1) (by simp[kA,gB,CG]) _ oM;rw[e] at hK;refine fN ?_;refine .c rfl rfl rfl rfl (fun H hs=> qP H hs.base) ?_;refine U7 ?_;refine .rt hK func227 results227 [_] ?_;exact okB
  | false=>
   rw[CG] at qP;refine fN ?_;refine .c rfl rfl rfl rfl (fun H hs=> qP H hs.base) ?_;refine U8 ?_;exact Tc.db (ih ⟨j+1,oM,by simp[kA,gB,CG]⟩ Ob)
theorem aO(F:Option Addr)(n fc:Nat)(x:Nat->By)(hF:ZB H F n x)(hn:n<=1000000)(fv:Value)(p:Nat->Bool)(hp:∀j,j<n->∀H',H.le H'->WB M fv [bA (x j)] H' fun v H''=> H'.le H''/\v=.bool (p j)):
  fA M 144 #[.slice F n fc,fv] H (Ib H (.bool (kA p n).isSome)):=by
 have hi:=fun(H':View) (h':H.le H')=> M5 M H' F n fc x (hF.le h') hn fv p (fun j hj H'' h''=> hp j hj H'' (View.le_trans h' h''));cases hq:kA p n with
 | none=>
  rw[hq] at hi;have e:sB none= -1:=rfl;rw[e] at hi;refine .en func144 ntmps144 fun St c cs hK=> ?_;refine U8 ?_;refine .cl (fun H hs=> hi H hs.base) ?_;refine U3 ?_;refine .rt hK func144 results144 [_] ?_;exact okB
 | some j=>
  rw[hq] at hi;have e:sB (some j)=(j:Nat):=rfl;rw[e] at hi;refine .en func144 ntmps144 fun St c cs hK=> ?_;refine U8 ?_;refine .cl (fun H hs=> hi H hs.base) ?_;refine U3 ?_;refine .rt hK func144 results144 [_] ?_;exact okB
theorem QW(x:Int):fA M 140 #[.iz x] H (Ib H (.bool (!zF x))):=by
 cases h:zF x with
 | true=>
  refine .en func140 ntmps140 fun St c cs hK=> ?_;refine U7 ?_;refine .cl (fun H hs=> uA M H x 0 99 true h) ?_;refine U3 ?_;refine .rt hK func140 results140 [_] ?_;exact okB
 | false=>
  refine .en func140 ntmps140 fun St c cs hK=> ?_;refine U7 ?_;refine .cl (fun H hs=> uA M H x 0 99 false h) ?_;refine U3 ?_;refine .rt hK func140 results140 [_] ?_;exact okB
theorem m9(s:By)(b:Nat)(f:Bool)(hb:H b=some (f,.cells ⟨[bA s]⟩ 9 (0,0)))(o:By):
  fA M 145 #[bA o,.pt b] H (Ib H (.bool (ZC o s))):=by
 cases h1:XA o s with
 | true=>
  have e:ZC o s=true:=by unfold ZC;rw[h1];rfl
  rw[e];refine .en func145 ntmps145 fun St c cs hK=> ?_;refine U8 ?_;refine .cl (fun H hs=> fE M H o s true h1) ?_;refine U7 ?_;refine .rt hK func145 results145 [_] ?_;exact okB
 | false=>
  have e:ZC o s=XA s o:=by unfold ZC;rw[h1];rfl
  rw[e];refine .en func145 ntmps145 fun St c cs hK=> ?_;refine U8 ?_;refine .cl (fun H hs=> fE M H o s false h1) ?_;refine U3 ?_;refine .cl (fun H hs=> ZF M H s o) ?_;refine U3 ?_;refine .rt hK func145 results145 [_] ?_;exact okB
end
end Go.Proofs.YtldmfjcgjdchcaaGreatDoor
