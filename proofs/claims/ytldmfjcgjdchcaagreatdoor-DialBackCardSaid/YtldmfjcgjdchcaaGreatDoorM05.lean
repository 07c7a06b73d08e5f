/-
 Texts of the proofs over baudot/dial.
-/
import Derived.Test.YtldmfjcgjdchcaaGreatDoorM04
namespace Go.Proofs.YtldmfjcgjdchcaaGreatDoor
open Go.RL Go.Proofs.Tryz
set_option maxRecDepth 10000
set_option maxHeartbeats 16000000
theorem gM {f:Nat->Int}:∀n,eC f n=0->∀i,i<n->f i=0
 | 0,_,i,hi=> by omega
 | n + 1,h,i,hi=> by
  rw[eC] at h;split at h
  ·rename_i h0
   by_cases e:i=n
   ·subst e;exact h
   ·exact gM n h0 i oM
  ·rename_i h0
   exact(h0 h).elim
theorem Bk.ZF {k:Bk}(h:k.QA=0){i:Nat}(hi:i<k.nl):xH (k.name i)=true/\k.again i=false/\isNum (k.num i)=true/\(k.pre i).clash (k.num i)=false/\(1<=k.nf i/\k.nf i<=4)/\∀j,j<k.nf i->0<=k.free i j/\k.free i j<=2:=by
 obtain⟨_,h2,_⟩:=Bk.iZ h;unfold Bk.ED at h2;split at h2
 ·cases h2
 ·have h3 :=gM _ h2 i hi;unfold Bk.SB at h3;split at h3
  ·cases h3
  ·rename_i q0
   split at h3
   ·cases h3
   ·rename_i q1
    split at h3
    ·cases h3
    ·rename_i q2
     split at h3
     ·cases h3
     ·rename_i q3
      split at h3
      ·cases h3
      ·rename_i q4
       split at h3
       ·cases h3
       ·rename_i q5
        have q4':=of_decide_eq_true (Bool.not_eq_false _▸q4:decide _=true);refine⟨by simpa using q0,by simpa using q1,by simpa using q2,by simpa using q3,oM,fun j hj=> ?_⟩;unfold Bk.UG at q5;have h4:jA (fun j=> !pD (k.free i j)) (k.nf i)=none:=by
         cases hz:jA (fun j=> !pD (k.free i j)) (k.nf i) with
         | none=> rfl
         | some y=> rw[hz] at q5;exact(q5 rfl).elim
        have h5:=(KB _).1 h4 j hj;unfold pD at h5;simpa using h5
theorem GG {sz off d:Nat}{gs c:List Value}(h:tE true sz gs off=some (.agg ⟨c⟩))(hd:d<sz):tE false 1 gs (off+d)=c[d]? :=by
 obtain⟨h1,h2⟩:=oR h;simp only[Value.agg.injEq,Array.mk.injEq] at h2;show gs[_]? =_;rw[h2,List.getElem?_take,if_pos hd,List.getElem?_drop]
def X7(k:Bk)(line j:Nat):List Value:=(List.range 4).map fun i=> .int .i64 (if i<j then k.nF line i else 0)
theorem aB3(k:Bk)(line j:Nat)(hj:j<4):uG (X7 k line j) (0+((j:Nat):Int).toNat*1) [.int .i64 (k.nF line j)]=X7 k line (j+1):=by
 rcases(by omega:j=0\/j=1\/j=2\/j=3) with rfl|rfl|rfl|rfl <;> rfl
theorem Y7(k:Bk)(line n:Nat)(hn:n<=4){H:View}{b:Nat}{f:Bool}{gt:TypeId}{gz:Nat×Nat}(hb:H b=some (f,.cells ⟨X7 k line n⟩ gt gz)):ZA H 1 (.slice (some ⟨b,0,none⟩) n 4) n (iU (k.nF line) n):=by
 have h:=ZA.of (sz:=1) (m:=n) (c:=4) (off:=0) hb (by simp[X7];omega);have e:((X7 k line n).drop 0).take (n*1)=iU (k.nF line) n:=by
  rcases(by omega:n=0\/n=1\/n=2\/n=3\/n=4) with rfl|rfl|rfl|rfl|rfl <;> rfl
 rw[e] at h;exact h
theorem zU(f:Nat->Int)(n:Nat):(iU f n).all single=true:=by
 rw[List.all_eq_true];intro x hx;obtain⟨i,_,rfl⟩:=List.mem_map.1 hx;rfl
section
variable(M:Md prog)(H:View)
theorem X5(k:Bk)(A:Option Addr)(lc:Nat)(B:Option Addr)(tc:Nat)(hk:fE H k A lc B tc)(hn:k.small)(hG:gF H)(ha:k.QA=0)(line:Nat)(hl:line<k.nl):
  bA M 54 #[k.val A lc B tc,.int .i64 (line:Nat)] H (fun v H'=> H.le H'/\∃g:Gl 110 1,v=A3 g (k.bF line (k.nf line)) 0/\(g.n=k.nf line/\g.l=iU (k.nF line) (k.nf line))/\∀x∈g.bl,H' x.1=some x.2/\H x.1=none):=by
 obtain⟨_,RN,zK,MC⟩:=Bk.valid ha;obtain⟨_,_,_,_,VX,G0⟩:=Bk.ZF ha hl;have hb:=fun(H':View)=> uA M H' ((line:Nat):Int) 0 ((k.nl:Int)-1) true (decide_eq_true oM);have kA:=fun(H':View) (h':H.le H')=> BC M H' k A lc B tc (hk.le h') hn (FA hG h') ha;have JS:=hk.rows;obtain⟨_,h0|⟨ab,ao,fa,gs,gt,gz,rfl,KS,SM⟩⟩:=JS
 ·omega
 obtain⟨F,fc,f1,F0,hF⟩:=SM line hl;have f2:tE false 1 gs (ao+((line:Nat):Int).toNat*3+2)=some (.slice F (k.nf line) fc):=GG f1 dE;obtain h0|⟨fb,fo,ff,fs,ft,fz,rfl,hfb,TU⟩:=hF
 ·omega
 obtain⟨_,fg,gt1,gz1,M8⟩:=hG;refine .en func54 ntmps54 fun St c cs hK=> ?_;refine U2 ?_;refine .bo fun b2=> ?_;refine U5 ?_;refine Tc.dr [12] [] mixed rfl ?_;refine V6 0 ?_;refine .z 6 rfl (pA.tk fun H hs=> hb H) ?_;refine .z 7 rfl (pA.tk fun H hs=> kA H hs.base) ?_;refine V2 8 ?_;refine .nw 10 ?_;refine .ea 11 rfl (.al (zz:=fun b7=> ⟨S2.mk sL (.inr sL),?_⟩));refine .e 12 0 ?_;refine .nw 13 ?_;refine .dn ?_;refine DD ?_;refine .al fun b8=> ?_;refine U4 ?_;refine To.uB rfl rfl rfl rfl rfl rfl dE (yB.h (QI M H k (some ⟨ab,ao,none⟩) lc B tc hk.rows hn.nl hk.JC MC zK)) (fun v H₂ hv=> ?_);obtain⟨hle,m,es,cl,rfl,⟨fm,q3⟩,q4⟩:=hv;have aE0:=hle _ _ KS;have aE4:=hle _ _ hfb;have dP:=hle _ _ M8;refine U ?_;refine .cl (fun H hs=> vL M H k (line:Nat) m es cl fm (hs.base _ _ q3) q4) ?_;refine TR ?_;refine Tc.db (Tc.sA (σ:= { j:Nat//j<=k.nf line }) (fun j=> ([(2,.pointer (some ⟨b2,0,none⟩)),(4,.slice none 0 0),(5,.int .i64 (k.bF line j.1)),(7,.pointer (some ⟨b7,0,none⟩)),(8,.pointer (some ⟨b8,0,none⟩)),(9,.slice (some ⟨fb,fo,none⟩) (k.nf line) fc),(36,.slice (some ⟨fb,fo,none⟩) (k.nf line) fc),(37,.int .i64 (k.nf line:Nat)),(38,.int .i64 (j.1:Nat))],
  [(b8,true,.cells ⟨X7 k line j.1⟩ 240 (0,0)),(b7,true,.cells ⟨(k.val (some ⟨ab,ao,none⟩) lc B tc).cells.toList⟩ 166 (0,0)),(b2,true,.cells ⟨(k.val (some ⟨ab,ao,none⟩) lc B tc).cells.toList⟩ 45 (0,0))])) (fun j=> k.nf line-j.1) ?_ ⟨0,Nat.zero_le _⟩)
 rintro⟨j,hj⟩ ih;show Tc M St _ _ _ _ [(2,.pointer (some ⟨b2,0,none⟩)),(4,.slice none 0 0),(5,.int .i64 (k.bF line j)),(7,.pointer (some ⟨b7,0,none⟩)),(8,.pointer (some ⟨b8,0,none⟩)),(9,.slice (some ⟨fb,fo,none⟩) (k.nf line) fc),(36,.slice (some ⟨fb,fo,none⟩) (k.nf line) fc),(37,.int .i64 (k.nf line:Nat)),(38,.int .i64 (j:Nat))]
  [(b8,true,.cells ⟨X7 k line j⟩ 240 (0,0)),(b7,true,.cells ⟨(k.val (some ⟨ab,ao,none⟩) lc B tc).cells.toList⟩ 166 (0,0)),(b2,true,.cells ⟨(k.val (some ⟨ab,ao,none⟩) lc B tc).cells.toList⟩ 45 (0,0))] _ _
 by_cases c1:j=k.nf line
 ·subst c1;refine PF ?_;refine .x (pA.J3 (E:=en) (off':=0) rfl rfl rfl rfl rfl rfl rfl rfl oM oM oM (by rw[if_neg dE];rfl)) ?_;refine .e (Or.append (E:=en) (g:=Gl.nil 110 1) (m:=k.nf line) (new:=iU (k.nF line) (k.nf line)) (yv:=.slice (some ⟨b8,0,none⟩) (k.nf line) 4) 3 rfl rfl rfl rfl rfl rfl rfl rfl rfl rfl rfl rfl rfl rfl rfl (fun H hs=> Y7 k line (k.nf line) VX.2 (hs.get (i:=0) rfl)) (zU _ _) (by show 0+k.nf line<=_;omega) rfl dE (fun g' gP lM=> ?_));refine U5 ?_;refine .rt hK func54 results54 [_,_,_] ?_;exact fun H' hs=> ⟨View.le_trans hle hs.base,g',rfl,⟨by rw[gP];exact Nat.zero_add _,by rw[lM];rfl⟩,fun x hx=> ⟨hs.at_ x (by simp[hx]),none_le hle (hs.out x (by simp[hx]))⟩⟩
 ·have c2:j<k.nf line:=by omega
  have f3:=TU j c2;have hfj:=G0 j c2;obtain⟨nz,hnz⟩:∃z,(if k.free line j=0 then 0 else if k.free line j=1 then 2 else 1:Int)=z:=⟨_,rfl⟩
  have f4:tE false 1 [Value.int .i64 0,.int .i64 2,.int .i64 1] (0+(k.free line j).toNat*1)=some (.int .i64 nz):=by
   rw[<-hnz];rcases(by omega:k.free line j=0\/k.free line j=1\/k.free line j=2) with h|h|h <;> rw[h] <;> rfl
  have f5:Nat.ble (0+((j:Nat):Int).toNat*1+1) (X7 k line j).length=true:=by
   refine Nat.ble_eq_true_of_le ?_;rw[Int.toNat_natCast];simp[X7]
   omega
  have f6:=aB3 k line j oM;have en1:k.bF line (j+1)=nH (k.bF line j) nz:=by rw[Bk.bF,hnz]
  refine TJ ?_;refine Tc.dr [10] [0] mixed rfl ?_;refine V3 0 ?_;refine .z 3 rfl (pA.tk fun H hs=> s8 M H (k.bF line j) (k.free line j)) ?_;refine .nw 4 ?_;refine .nw 5 ?_;refine .nw 6 ?_;refine .nn 7 ?_;refine .z 8 rfl (pA.tk fun H hs=> s8 M H (k.bF line j) nz) ?_;refine .nn 9 ?_;refine .e 10 0 ?_;refine .nw 11 ?_;refine .dn ?_;refine U5 ?_;refine Tc.ZC (ih ⟨j+1,oM⟩ (by simp only;omega)) ?_ ?_
  ·simp only[en1];exact⟨rfl,rfl,rfl,rfl,rfl,rfl,rfl,rfl,rfl,trivial⟩
  ·exact sL
end
theorem WB.bk {H:View}{k:Bk}{A:Option Addr}{lc:Nat}{B:Option Addr}{tc:Nat}{F:Nat->Option Addr}{fc:Nat->Nat}(h:WB H k A lc B tc F fc):fE H k A lc B tc:=⟨h.D3,h.KO⟩
def v8(x:Value)(a:Int):Value:=.tuple ⟨[x,.int .i64 a]⟩
def F2(a:Int):Value:=v8 (bk0.val none 0 none 0) a
def imax(a b:Int):Int:=if a<b then b else a
def CK(a b:Int):Int:=if b<a then b else a
def Bk.K2(k:Bk)(t:Nat)(a b c' d:Int):Bool:=XA (imax (k.pf t) a) (CK (k.pt t) b) (imax (k.qf t) c') (CK (k.qt t) d)
def Bk.now(k:Bk)(t:Nat)(a b c' d:Int):Bk:=k.with t (imax (k.pf t) a) (CK (k.pt t) b) (imax (k.qf t) c') (CK (k.qt t) d)
section
variable(M:Md prog)(H:View)
theorem B9(k:Bk)(A:Option Addr)(lc:Nat)(B:Option Addr)(tc:Nat)(hk:fE H k A lc B tc)(hn:k.small)(hG:gF H)(ha:k.QA=0)(t:Nat)(ht:t<k.nt)(a b c' d:Int)(hx:XA a b c' d=false):
  bA M 53 #[k.val A lc B tc,.int .i64 (t:Nat),mD a b c' d] H (fun v H'=> H.le H'/\v=F2 1):=by
 have zK:=hn.nt;have hb:=fun(H':View)=> uA M H' ((t:Nat):Int) 0 ((k.nt:Int)-1) true (decide_eq_true oM);refine .en func53 ntmps53 fun St c cs hK=> ?_;refine U2 ?_;refine .bo fun b3=> ?_;refine .bo fun b5=> ?_;refine .al fun b6=> ?_;refine U3 ?_;refine Tc.dr [12] [] mixed rfl ?_;refine V6 0 ?_;refine .z 6 rfl (pA.tk fun H hs=> hb H) ?_;refine .z 7 rfl (pA.tk fun H hs=> BC M H k A lc B tc (hk.le hs.base) hn (FA hG hs.base) ha) ?_;refine V2 8 ?_;refine .nw 10 ?_;refine .ea 11 rfl (.al (zz:=fun b8=> ⟨S2.mk sL (.inr sL),?_⟩));refine .e 12 0 ?_;refine .nw 13 ?_;refine .dn ?_;refine PF ?_;refine .cl (fun H hs=> OF (yE M H a b c' d) hx) ?_;refine DD ?_;refine .rt hK func53 results53 [_,_] ?_;exact okB
theorem O4(k:Bk)(A:Option Addr)(lc:Nat)(B:Option Addr)(tc:Nat)(hk:fE H k A lc B tc)(hn:k.small)(hG:gF H)(ha:k.QA=0)(t:Nat)(ht:t<k.nt)(a b c' d:Int)(hx:XA a b c' d=true)(hy:k.K2 t a b c' d=false):
  bA M 53 #[k.val A lc B tc,.int .i64 (t:Nat),mD a b c' d] H (fun v H'=> H.le H'/\v=F2 10):=by
 have zK:=hn.nt;have hb:=fun(H':View)=> uA M H' ((t:Nat):Int) 0 ((k.nt:Int)-1) true (decide_eq_true oM);have hT:=hk.JC;obtain⟨_,h0|⟨tb,to,ft,gs,gt,gz,rfl,htb,hl⟩⟩:=hT
 ·omega
 have f1:=hl t ht;refine .en func53 ntmps53 fun St c cs hK=> ?_;refine U2 ?_;refine .bo fun b3=> ?_;refine .bo fun b5=> ?_;refine .al fun b6=> ?_;refine U3 ?_;refine Tc.dr [12] [] mixed rfl ?_;refine V6 0 ?_;refine .z 6 rfl (pA.tk fun H hs=> hb H) ?_;refine .z 7 rfl (pA.tk fun H hs=> BC M H k A lc (some ⟨tb,to,none⟩) tc (hk.le hs.base) hn (FA hG hs.base) ha) ?_;refine V2 8 ?_;refine .nw 10 ?_;refine .ea 11 rfl (.al (zz:=fun b8=> ⟨S2.mk sL (.inr sL),?_⟩));refine .e 12 0 ?_;refine .nw 13 ?_;refine .dn ?_;refine PF ?_;refine .cl (fun H hs=> OF (yE M H a b c' d) hx) ?_;refine LG ?_;refine .al fun b10=> ?_;refine U3 ?_;refine Tc.dr [12] [] mixed rfl ?_;refine V4 0 ?_;refine .z 4 rfl (pA.tk fun H hs=> IQ M H (k.pf t) (k.pt t) a b (imax (k.pf t) a) (CK (k.pt t) b) rfl rfl) ?_;refine V4 5 ?_;refine .z 9 rfl (pA.tk fun H hs=> IQ M H (k.qf t) (k.qt t) c' d (imax (k.qf t) c') (CK (k.qt t) d) rfl rfl) ?_;refine .nn 10 ?_;refine .ea 11 rfl (.al (zz:=fun b11=> ⟨S2.mk sL (.inr sL),?_⟩));refine .e 12 0 ?_;refine .dn ?_;refine U4 ?_;refine .cl (fun H hs=> OF (yE M H (imax (k.pf t) a) (CK (k.pt t) b) (imax (k.qf t) c') (CK (k.qt t) d)) hy) ?_;refine U9 ?_;refine .rt hK func53 results53 [_,_] ?_;exact okB
theorem VY(k:Bk)(A:Option Addr)(lc:Nat)(B:Option Addr)(tc:Nat)(F:Nat->Option Addr)(fc:Nat->Nat)(hB:WB H k A lc B tc F fc)(hn:k.small)(hG:gF H)(ha:k.QA=0)(t:Nat)(ht:t<k.nt)(a b c' d:Int)(hx:XA a b c' d=true)(hy:k.K2 t a b c' d=true):
  bA M 53 #[k.val A lc B tc,.int .i64 (t:Nat),mD a b c' d] H (fun v H'=> H.le H'/\∃A' lc' B' tc' F' fc',v=v8 ((k.now t a b c' d).val A' lc' B' tc') 0/\WB H' (k.now t a b c' d) A' lc' B' tc' F' fc'):=by
 have hk:=hB.bk;have zK:=hn.nt;have hb:=fun(H':View)=> uA M H' ((t:Nat):Int) 0 ((k.nt:Int)-1) true (decide_eq_true oM);have hT:=hk.JC;obtain⟨_,h0|⟨tb,to,ft,gs,gt,gz,rfl,htb,hl⟩⟩:=hT
 ·omega
 have f1:=hl t ht;refine .en func53 ntmps53 fun St c cs hK=> ?_;refine U2 ?_;refine .bo fun b3=> ?_;refine .bo fun b5=> ?_;refine .al fun b6=> ?_;refine U3 ?_;refine Tc.dr [12] [] mixed rfl ?_;refine V6 0 ?_;refine .z 6 rfl (pA.tk fun H hs=> hb H) ?_;refine .z 7 rfl (pA.tk fun H hs=> BC M H k A lc (some ⟨tb,to,none⟩) tc (hk.le hs.base) hn (FA hG hs.base) ha) ?_;refine V2 8 ?_;refine .nw 10 ?_;refine .ea 11 rfl (.al (zz:=fun b8=> ⟨S2.mk sL (.inr sL),?_⟩));refine .e 12 0 ?_;refine .nw 13 ?_;refine .dn ?_;refine PF ?_;refine .cl (fun H hs=> OF (yE M H a b c' d) hx) ?_;refine LG ?_;refine .al fun b10=> ?_;refine U3 ?_;refine Tc.dr [12] [] mixed rfl ?_;refine V4 0 ?_;refine .z 4 rfl (pA.tk fun H hs=> IQ M H (k.pf t) (k.pt t) a b (imax (k.pf t) a) (CK (k.pt t) b) rfl rfl) ?_;refine V4 5 ?_;refine .z 9 rfl (pA.tk fun H hs=> IQ M H (k.qf t) (k.qt t) c' d (imax (k.qf t) c') (CK (k.qt t) d) rfl rfl) ?_;refine .nn 10 ?_;refine .ea 11 rfl (.al (zz:=fun b11=> ⟨S2.mk sL (.inr sL),?_⟩));refine .e 12 0 ?_;refine .dn ?_;refine U4 ?_;refine .cl (fun H hs=> OF (yE M H (imax (k.pf t) a) (CK (k.pt t) b) (imax (k.qf t) c') (CK (k.qt t) d)) hy) ?_;refine U9 ?_;refine To.uB rfl rfl rfl rfl rfl rfl dE (yB.h (L4 M H k A lc (some ⟨tb,to,none⟩) tc F fc hB hn.nl hn.nt (fun i hi=> (hn.num i hi).2) t ht (imax (k.pf t) a) (CK (k.pt t) b) (imax (k.qf t) c') (CK (k.qt t) d))) (fun v H₅ hv=> ?_);obtain⟨TX,A',lc',B',tc',F',fc',rfl,hB'⟩:=hv;refine U4 ?_;refine .rt hK func53 results53 [_,_] ?_;exact fun H' hs=> ⟨View.le_trans TX hs.base,A',lc',B',tc',F',fc',rfl,hB'.le hs.base⟩
end
end Go.Proofs.YtldmfjcgjdchcaaGreatDoor
namespace Go.RL
open Go.Conc
def bB(s:List UInt8):List Value:=s.map fun b=> .int .u8 (b.toNat:Nat)
theorem PG(s:List UInt8):(bB s).length=s.length:=by simp[bB]
theorem yJ(s t:List UInt8):bB (s++t)=bB s++bB t:=by simp[bB]
theorem bP(s:List UInt8):(bB s).all single=true:=by
 rw[List.all_eq_true];intro x hx;obtain⟨b,_,rfl⟩:=List.mem_map.1 hx;rfl
section
variable {P:Program}{E:Env P}{M:Md P}{n:Nat}{H₀:View}{R:Rg}{L L':Bl}{K:Rg->Bl->Prop}{o:Oper}{d:Nat}{v:Value}
theorem vU(a:List UInt8)(b:UInt8):(ByteArray.mk ⟨a⟩).push b=ByteArray.mk ⟨a++[b]⟩:=by
 apply ByteArray.ext
 apply Array.ext'
 simp
end
end Go.RL
namespace Go.Proofs.YtldmfjcgjdchcaaGreatDoor
open Go.RL Go.Proofs.Tryz
set_option maxRecDepth 10000
set_option maxHeartbeats 8000000
section
variable(M:Md prog)(H:View)
end
end Go.Proofs.YtldmfjcgjdchcaaGreatDoor
namespace Go.RL
open Go.Conc
section
variable {P:Program}{E:Env P}{M:Md P}{n:Nat}{H₀:View}{R:Rg}{L L':Bl}{K:Rg->Bl->Prop}{o:Oper}{d:Nat}{v:Value}
structure Xt(P:Program)(f:FuncId)(e:Array Value->Sem Value):Prop where
 ex:∃fn,P.funcs[f]? =some fn/\(fn.name== "runtime.NumGoroutine")=false/\fn.body.isNone=true/\Extern.findNext fn=none/\Extern.find fn=some e
theorem qQ {g:FuncId}{e:Array Value->Sem Value}{args:Array Value}{H:View}{Q:Next->View->Prop}(he:Xt P g e)(h:EA P (e args) H fun u H'=> Q (.value u) H'):EA P (callFunc g args) H Q:=by
 obtain⟨fn,h1,h2,h3,h4,h5⟩:=he;show EA P (match P.funcs[g]? with|none=> _|some fn=> _) H Q;rw[h1];simp only[h2,h3,h4,h5,Bool.false_eq_true,if_false,if_true];refine⟨rfl,?_⟩;exact aA (e args) _ h
theorem pA.entry {cl:Go.Call}{x:Operand}{g:FuncId}{az:List Value}{e:Array Value->Sem Value}(kA:o.op=.call cl)(iB:cl.callee=.value x)(hx:HA R x=some (.func (.func g) #[] #[]))(has:VC R cl.args.toList=some az)(he:Xt P g e)
  (hv:∀(H:View) (Q:Value->View->Prop),Q v H->EA P (e az.toArray) H Q):pA P n H₀ R L o v:=fun H tmps _ hr=> by
 have e1:=hr.ev hx;have XG:cl.args.map (CB tmps)=az.toArray:=by
  apply Array.ext'
  simpa using hr.evs has
 have hex:execOp (CB tmps) o=(resolve (CB tmps) cl o.type).bind fun d=> invoke d.target d.args:=by unfold execOp;rw[kA];rfl
 rw[hex];have:((resolve (CB tmps) cl o.type).bind fun d=> invoke d.target d.args)=(Deferred.ofValue (.func (.func g) #[] #[]) az.toArray).bind fun d=> invoke d.target d.args:=by
  unfold resolve;rw[iB];simp only[e1,XG]
 rw[this];simp only[Deferred.ofValue];show EA P (callFunc g (#[]++az.toArray ++ #[])) H _;have e3:(#[]:Array Value)++az.toArray ++ #[]=az.toArray:=by simp
 rw[e3];exact qQ he (hv H _ ⟨rfl,rfl⟩)
theorem dW {H:View}{r:Nat}{f:Bool}{c:Array Value}{e:TypeId}{fz:Nat×Nat}{Q:Option (Addr×TypeId)->View->Prop}(hb:H r=some (f,.cells c e fz))(h:Q none H):EA P (viewAt r) H Q:=⟨f,c,e,fz,hb,h⟩
theorem bU {H:View}{r:Nat}{f:Bool}{c:Array Value}{e:TypeId}{fz:Nat×Nat}{Q:Option Nat->View->Prop}(hb:H r=some (f,.cells c e fz))(h:Q (some c.size) H):EA P (cellsIn r) H Q:=⟨f,c,e,fz,hb,h⟩
theorem RO {H:View}{a:Addr}{f:Bool}{c:Array Value}{e:TypeId}{fz:Nat×Nat}{Q:Addr->View->Prop}(hb:H a.block=some (f,.cells c e fz))(h:Q a H):EA P (Conv.seenAt a) H Q:=by
 refine aA (viewAt a.block) _ (dW hb ?_);exact h
theorem pA.aEQ(j:Nat){t u pt:TypeId}{x:Operand}{blk off:Nat}{f:Bool}{c:List Value}{e:TypeId}{fz:Nat×Nat}{r:AA}(kA:o.op=.convert t u x)(hx:HA R x=some (.pointer (some ⟨blk,off,none⟩)))(hi:L[j]? =some (blk,f,.cells ⟨c⟩ e fz))
  (ht:P.underlying t=some (.pointer pt)) (hu:P.underlying u=some .unsafePointer) (hr:E.ty pt=some r) (h0:Nat.beq r.size 0=false) (hl:Nat.blt off c.length=true):pA P n H₀ R L o (.pointer (some ⟨blk,off,none⟩)):=fun H tmps hs p7=> by
 unfold execOp;rw[kA];simp only[p7.ev hx];refine aA (convert t u (.pointer (some ⟨blk,off,none⟩))) _ ?_;unfold convert;refine aA (underlying t) _ (fA ht (aA (underlying u) _ (fA hu ?_)));show EA P (Conv.unsafePointer t u (.pointer (some ⟨blk,off,none⟩))) H _;unfold Conv.unsafePointer;refine aA (underlying t) _ (fA ht (aA (underlying u) _ (fA hu ?_)));have hb:=hs.get hi;refine aA (Conv.seenAt ⟨blk,off,none⟩) _ (RO hb ?_);refine aA (cellsIn blk) _ (bU hb ?_);refine aA (sizeOf pt) _ (LA (E.ok _ _ hr).size ?_);have h1:r.size≠0:=Nat.ne_of_beq_eq_false h0;have h2:off<c.length:=by simpa [Nat.blt_eq] using hl
 have h3:(decide (r.size=0)||(decide (off≥(⟨c⟩:Array Value).size)&&(none:Option (Nat×Nat)).isNone))=false:=by
  have e1:decide (r.size=0)=false:=decide_eq_false h1;have e2:decide (off≥(⟨c⟩:Array Value).size)=false:=decide_eq_false (by show ¬off≥c.length;omega);rw[e1,e2];rfl
 rw[if_neg (by intro h;exact Bool.false_ne_true (h3.symm.trans h))];exact⟨rfl,rfl⟩
theorem pA.aAh(j:Nat){t u pt:TypeId}{x:Operand}{blk off:Nat}{f:Bool}{c:List Value}{e:TypeId}{fz:Nat×Nat}{r:AA}(kA:o.op=.convert t u x)(hx:HA R x=some (.pointer (some ⟨blk,off,none⟩)))(hi:L[j]? =some (blk,f,.cells ⟨c⟩ e fz))
  (ht:P.underlying t=some .unsafePointer) (hu:P.underlying u=some (.pointer pt)) (hr:E.ty pt=some r) (YS:liesAt P P.depth e (c.length/P.cellsOf e) off pt 1=true):pA P n H₀ R L o (.pointer (some ⟨blk,off,none⟩)):=fun H tmps hs p7=> by
 unfold execOp;rw[kA];simp only[p7.ev hx];refine aA (convert t u (.pointer (some ⟨blk,off,none⟩))) _ ?_;unfold convert;refine aA (underlying t) _ (fA ht (aA (underlying u) _ (fA hu ?_)));show EA P (Conv.unsafePointer t u (.pointer (some ⟨blk,off,none⟩))) H _;unfold Conv.unsafePointer;refine aA (underlying t) _ (fA ht (aA (underlying u) _ (fA hu ?_)));have hb:=hs.get hi;refine aA (Conv.seenAt ⟨blk,off,none⟩) _ (RO hb ?_);refine aA (sizeOf pt) _ (LA (E.ok _ _ hr).size ?_);refine aA (variablesAt ⟨blk,off,none⟩ pt 1) _ ?_;refine⟨f,_,_,_,hb,?_⟩;show EA P (Sem.pure (liesAt P P.depth e (c.length/P.cellsOf e) off pt 1)) H _;rw[YS];show EA P (if(decide (r.size=0)||true)=true then _ else _) H _;rw[if_pos (by rw[Bool.or_true])];exact⟨rfl,rfl⟩
theorem pA.X2(b:Bool){t u pt:TypeId}{x y:Operand}{p:Option Addr}(kA:o.op=.binOp .eql t x y u)(hx:HA R x=some (.pointer p))(hy:HA R y=some (.pointer none))(ht:P.underlying t=some (.pointer pt))(hb:p.isNone=b):pA P n H₀ R L o (.bool b):=fun H tmps _ hr=> by
 subst hb;unfold execOp;rw[kA];simp only[hr.ev hx,hr.ev hy];show EA P (((eqGuard .eql t x y (.pointer p) (.pointer none)).bind fun _=> binOp .eql t (.pointer p) (.pointer none)).bind _) H _;refine aA _ _ (aA _ _ ?_);show EA P ((Op.equalIn (9999+1) t (.pointer p) (.pointer none)).bind fun c=> Sem.pure (Value.bool c)) H _;refine aA _ _ ?_;unfold Op.equalIn;refine aA (underlying t) _ (fA ht ?_);cases p <;> exact⟨rfl,rfl⟩
theorem pA.K7 {t u pt:TypeId}{x y:Operand}{a:Addr}{r:AA}(kA:o.op=.binOp .neq t x y u)(hx:HA R x=some (.pointer (some a)))(hy:HA R y=some (.pointer (some a)))(ht:P.underlying t=some (.pointer pt))(rE:E.ty pt=some r)(h0:Nat.beq r.size 0=false):
  pA P n H₀ R L o (.bool false):=fun H tmps _ hr=> by
 unfold execOp;rw[kA];simp only[hr.ev hx,hr.ev hy];show EA P (((eqGuard .neq t x y (.pointer (some a)) (.pointer (some a))).bind fun _=> binOp .neq t (.pointer (some a)) (.pointer (some a))).bind _) H _;refine aA _ _ (aA _ _ ?_);show EA P ((Op.equalIn (9999+1) t (.pointer (some a)) (.pointer (some a))).bind fun c=> Sem.pure (Value.bool (!c))) H _;refine aA _ _ ?_;unfold Op.equalIn;refine aA (underlying t) _ (fA ht ?_);refine aA (sizeOf pt) _ (LA (E.ok _ _ rE).size ?_);have h1:r.size≠0:=Nat.ne_of_beq_eq_false h0;show EA P (if r.size≠0 then sameAddr a a else _) H _;rw[if_pos h1];have e:EA P (sameAddr a a) H fun c H'=> c=true/\H'=H:=by
  unfold sameAddr;simp only[BEq.rfl,if_true];exact⟨rfl,rfl⟩
 refine SA _ ?_ e;rintro _ _ ⟨rfl,rfl⟩;exact⟨rfl,rfl⟩
def M1(s:List UInt8)(c:UInt8):Int:=
 match (List.range s.length).find? fun i=> (ByteArray.mk ⟨s⟩)[i]! ==c with
 | some i=> (i:Nat)
 | none=> -1
theorem l8 {s:List UInt8}{c:Nat}{H:View}{Q:Value->View->Prop}(h:Q (.int .i64 (M1 s (UInt8.ofNat c))) H):EA P (Extern.BytealgIndexByte.indexByte #[gA s,.int .u8 (c:Nat)]) H Q:=by
 show EA P (match (List.range s.length).find? fun i=> (ByteArray.mk ⟨s⟩)[i]! ==((c:Nat):Int).toNat.toUInt8 with|some i=> Sem.pure (goInt i)|none=> Sem.pure (goInt (-1))) H Q;rw[Int.toNat_natCast];have e:c.toUInt8=UInt8.ofNat c:=rfl;rw[e];unfold M1 at h;split at h
 ·exact h
 ·exact h
end
section
variable {P:Program}{E:Env P}{M:Md P}{n:Nat}{H₀:View}{R:Rg}{L L':Bl}{o:Oper}{K:Rg->Bl->Prop}{d:Nat}
theorem iA.sub {H:View}(h:iA H₀ L H)(p:L'.Sublist L):iA H₀ L' H:=
 ⟨h.nodup.sublist (p.map _),fun x hx=> h.out x (p.subset hx),fun x hx=> h.at_ x (p.subset hx),h.base⟩
def aM {σ:Type}(H₁:View)(val:σ->Value)(bl:σ->Bl)(p:σ->Prop)(v:Value)(H':View):Prop:=
 ∃s H₂,v=val s/\H₁.le H₂/\iA H₂ (bl s) H'/\p s
theorem Or.qL(k:Nat){σ:Type}(val:σ->Value)(bl:σ->Bl)(p:σ->Prop){cl:Go.Call}{x:Operand}{fv:Value}{az:List Value}(kA:o.op=.call cl)(iB:cl.callee=.value x)(hx:HA R x=some fv)(has:VC R cl.args.toList=some az)
  (hc:∀H₁ H,iA H₀ (L.take k) H₁->iA H₁ (L.drop k) H->yB M fv az H (aM H₁ val bl p))
  (hk:∀s,p s->∃R',(match o.dst with|some d=> d<n/\R'=(d,val s)::R|none=> R'=R)/\K R' (L.take k++bl s)):Or M n H₀ R L o K:=
 .wN kA iB hx has (Q:=fun _ v H'=> ∃s,v=val s/\p s/\iA H₀ (L.take k++bl s) H') (fun H hs=> by
  have hs':iA H₀ (L.drop k++L.take k) H:=hs.perm (List.perm_append_comm.trans (by rw[List.take_append_drop]));obtain⟨H₁,h1,h2⟩:=hs'.PD;refine(hc H₁ H h2 h1).mono ?_;rintro v H' ⟨s,H₂,rfl,h3,h4,h5⟩;exact⟨s,rfl,h5,((h2.mono h3).append h4).perm List.perm_append_comm⟩) (by
  rintro H v H' hs ⟨s,rfl,h1,h2⟩;obtain⟨R',h3,h4⟩:=hk s h1;exact⟨_,R',h2,h3,h4⟩)
theorem Or.gD(k:Nat){σ:Type}(val:σ->Value)(bl:σ->Bl)(p:σ->Prop){cl:Go.Call}{x:Operand}{fv:Value}{az:List Value}(kA:o.op=.call cl)(iB:cl.callee=.value x)(hx:HA R x=some fv)(has:VC R cl.args.toList=some az)(hd:o.dst=some d)(hn:d<n)
  (hc:∀H₁ H,iA H₀ (L.take k) H₁->iA H₁ (L.drop k) H->yB M fv az H (aM H₁ val bl p))
  (hk:∀s,p s->K ((d,val s)::R) (L.take k++bl s)):Or M n H₀ R L o K:=
 .qL k val bl p kA iB hx has hc fun s hs=> ⟨_,by rw[hd];exact⟨hn,rfl⟩,hk s hs⟩
theorem Or.HZ {t u e:TypeId}{x:Operand}{s:List UInt8}{r re r':AA}(kA:o.op=.convert t u x)(hx:HA R x=some (gA s))(ht:E.ty t=some r)(hr:r.ds=.str)(j5:E.ty u=some r')(rE:r'.ds=.slice e)(hte:E.ty e=some re)(eD:re.ds=.int .u8)(hd:o.dst=some d)(hn:d<n)
  (hk:∀blk cap (jj:List Value) fz,K ((d,.slice (some ⟨blk,0,none⟩) s.length cap)::R) ((blk,true,.cells ⟨bB s++jj⟩ e fz)::L)):Or M n H₀ R L o K:=
 .val hd hn fun H tmps hs hr0=> by
  unfold execOp;rw[kA];simp only[hr0.ev hx];refine aA (convert t u (gA s)) _ ?_;unfold convert;refine aA (underlying t) _ (fA (YE ((E.ok _ _ ht).ds.trans hr)) (aA (underlying u) _ (fA (wC ((E.ok _ _ j5).ds.trans rE)) ?_)));refine aA (underlying e) _ (fA (wL ((E.ok _ _ hte).ds.trans eD)) ?_);show EA P (Conv.stringToBytes e ⟨⟨s⟩⟩) H _;unfold Conv.stringToBytes;refine aA (choose _) _ ?_;intro tt;rw[if_neg (by simp[Question.forced])];generalize (Question.appendCap (ByteArray.mk ⟨s⟩).size 0 e).cut tt=cap;refine aA (newRow e _) _ ?_;have e1:(ByteArray.mk ⟨s⟩).data.map (fun b=> Value.int .u8 (b.toNat:Int))++Array.replicate (cap-(ByteArray.mk ⟨s⟩).size) (Value.int .u8 0)=⟨bB s++List.replicate (cap-s.length) (.int .u8 0)⟩:=by
   apply Array.ext'
   simp[bB]
   rfl
  rw[e1];intro blk FG;refine aA (markStringish ⟨blk,0,none⟩) _ ?_;refine⟨true,_,_,_,View.jB ..,?_⟩;refine⟨Nat.one_ne_zero,_,_,_,View.jB ..,?_⟩;refine⟨_,rfl,_,?_,hk blk cap (List.replicate (cap-s.length) (.int .u8 0)) ?fz⟩;have e2:∀(H:View) (b:Nat) (x y:Bool×Obj),(H.put b x).put b y=H.put b y:=fun H b x y=> by
   funext c
   by_cases h:c=b
   ·subst h;rw[View.jB,View.jB]
   ·rw[View.GA _ _ h,View.GA _ _ h,View.GA _ _ h]
  rw[e2];exact hs.cons _ FG
theorem Or.T9(i:Nat){cl:Go.Call}{x y:Operand}{t xt e e':TypeId}{m q cap blk off:Nat}{yv:Value}{new c c':List Value}{r re:AA}(kA:o.op=.call cl)(iB:cl.callee=.builtin .copy)(NF:cl.argTypes=#[t,xt])(VG:cl.args=#[x,y])
  (hx:HA R x=some (.slice (some ⟨blk,off,none⟩) q cap)) (hy:HA R y=some yv) (ht:E.ty t=some r) (JB:r.ds=.slice e) (eD:E.ty e=some re) (LD:re.size=1)
  (hi:L[i]? =some (blk,true,.cells ⟨c⟩ e' (0,0))) (BL:∀H,iA H₀ L H->ZA H 1 yv m new) (hs:new.all single=true) (hm:m<=q) (hl:off+q<=c.length) (hd:o.dst=some d) (hn:d<n) (hc:uG c off new=c')
  (hk:K ((d,.int .i64 (m:Nat))::R) (L.set i (blk,true,.cells ⟨c'⟩ e' (0,0)))):Or M n H₀ R L o K:=
 .val hd hn fun H tmps LB hr=> by
  have W0:=BL H LB;unfold execOp;rw[kA];simp only[resolve,iB,NF,VG];have UX:Array.map (CB tmps) #[x,y]=#[.slice (some ⟨blk,off,none⟩) q cap,yv]:=by simp[hr.ev hx,hr.ev hy]
  rw[UX];refine aA (Builtin.copy_ #[t,xt] o.type #[.slice (some ⟨blk,off,none⟩) q cap,yv]) _ ?_;show EA P ((underlying t).bind fun _=> _) H _;refine aA (underlying t) _ (fA (wC ((E.ok _ _ ht).ds.trans JB)) ?_);show EA P ((Builtin.lenOf yv).bind fun _=> _) H _;refine aA (Builtin.lenOf yv) _ (W0.lenOf ?_);show EA P ((sizeOf e).bind fun _=> _) H _;refine aA (sizeOf e) _ (LA (E.ok _ _ eD).size ?_);have aCN:Nat.min m q=m:=Nat.min_eq_left hm;rw[aCN,LD];refine aA (Builtin.firstCells 1 m yv) _ (nD W0 ?_);show EA P ((storeCells ⟨blk,off,none⟩ new).bind fun _=> Sem.pure (Value.int .i64 (m:Nat))) H _;refine aA _ _ ?_;have hlen:new.length=m:=by have:=W0.2.1;omega
  refine DC blk off new 0 c (LB.get hi) (by simp only[Nat.add_zero];omega) hs fun H' RP=> ?_;by_cases nB:new= []
  ·rw[if_pos nB] at RP;subst RP;have e1:c'=c:=by rw[<-hc,nB,VK]
   rw[e1] at hk;have e2:L.set i (blk,true,.cells ⟨c⟩ e' (0,0))=L:=by
    apply List.ext_getElem?
    intro j;rw[List.getElem?_set];split
    ·rename_i h
     subst h;rw[hi];split
     ·rfl
     ·rename_i h2
      rw[List.getElem?_eq_none oM] at hi;cases hi
    ·rfl
   rw[e2] at hk;exact⟨_,rfl,_,LB,hk⟩
  ·rw[if_neg nB] at RP;rw[RP];refine⟨_,rfl,_,LB.set hi _,?_⟩;rw[show uG c (off+0) new=c' from hc];exact hk
end
end Go.RL
namespace Go.Proofs.YtldmfjcgjdchcaaGreatDoor
open Go.RL Go.Proofs.Tryz
set_option maxRecDepth 10000
set_option maxHeartbeats 16000000
def pn(x:UInt8):Nat:=if x.toNat=48 then 10 else x.toNat-48
theorem W2 {x:UInt8}(h:CD x=true):1<=pn x/\pn x<=10:=by
 have:=of_decide_eq_true h;unfold pn;split <;> omega
def lP(s:List UInt8)(i:Nat):Nat:=pn (s[i]?.getD 48)
def slip(s:List UInt8)(i m:Nat):List UInt8:=s.take i++[SG m]++s.drop (i+1)
def kI(s:List UInt8)(i m:Nat):List (List UInt8):=if 1<=m/\m<=10 then [slip s i m] else []
def gH(s:List UInt8)(i:Nat):List (List UInt8):=kI s i (lP s i-1)++kI s i (lP s i+1)
def cC(s:List UInt8)(i:Nat):List (List UInt8):=(List.range' i (s.length-i)).flatMap (gH s)
def qG(s:List UInt8):List (List UInt8):=cC s 0
theorem lI {s:List UInt8}{i:Nat}(h:i<s.length):cC s i=gH s i++cC s (i+1):=by
 unfold cC;rw[show s.length-i=(s.length-(i+1))+1 by omega];rfl
theorem sJ {s:List UInt8}{i:Nat}(h:s.length<=i):cC s i= []:=by
 unfold cC;rw[show s.length-i=0 by omega];rfl
theorem kP {s x:List UInt8}{i:Nat}:x∈cC s i<->∃j,i<=j/\j<s.length/\x∈gH s j:=by
 unfold cC;simp only[List.mem_flatMap,List.mem_range'_1];constructor
 ·rintro⟨j,h1,h2⟩;exact⟨j,h1.1,oM,h2⟩
 ·rintro⟨j,h1,h2,h3⟩;exact⟨j,⟨h1,oM⟩,h3⟩
def AO(s:List UInt8)(i j:Nat):Nat:=if j=0 then lP s i-1 else lP s i+1
def OD(s:List UInt8)(i j:Nat):List (List UInt8):=(if j=0 then kI s i (lP s i-1) else [])++((if j<=1 then kI s i (lP s i+1) else [])++cC s (i+1))
theorem mP(s:List UInt8)(i j:Nat)(h:j<2):OD s i j=kI s i (AO s i j)++OD s i (j+1):=by
 rcases(by omega:j=0\/j=1) with rfl|rfl
 ·simp[OD,AO]
 ·simp[OD,AO]
theorem DR(s:List UInt8)(i:Nat):OD s i 2=cC s (i+1):=by simp[OD]
theorem nP {s:List UInt8}{i:Nat}(h:i<s.length):cC s i=OD s i 0:=by
 rw[lI h];simp[OD,gH]
def NT(b:Nat):Value:=.func (.func 221) #[] #[.pointer (some ⟨b,0,none⟩)]
def wJ(s:List UInt8)(b:Nat)(H:View):Prop:=∃f,H b=some (f,.cells ⟨[gA s]⟩ 9 (0,0))
theorem wJ.le {s:List UInt8}{b:Nat}(H H':View)(h:H.le H')(c:wJ s b H):wJ s b H':=c.imp fun _ e=> h _ _ e
theorem OQ(s:List UInt8)(p:Nat)(hp:p<s.length)(hd:s.all CD=true):∃x,s[p]? =some x/\CD x=true/\Utf8.decode ⟨⟨s⟩⟩ p=(x.toNat,1):=by
 have hx:=List.getElem?_eq_getElem hp;have h1:CD s[p]=true:=List.all_eq_true.1 hd _ (List.getElem_mem hp);refine⟨s[p],hx,h1,?_⟩;obtain⟨z,w,h2,_,y,h3,h4,_⟩:=JZ s p hp;rw[hx] at h3;cases h3
 have:=of_decide_eq_true h1;obtain⟨rfl,rfl⟩:=h4 oM;exact h2
section
variable(M:Md prog)(H:View)
theorem pO(x:UInt8)(hx:CD x=true):bA M 44 #[.int .i32 (x.toNat:Nat)] H (fun v H'=> H.le H'/\v=.int .i64 (pn x:Nat)):=by
 have hd:=of_decide_eq_true hx;by_cases c1:x.toNat=48
 ·have e:pn x=10:=if_pos c1;rw[e,c1];refine .en func44 ntmps44 fun St c cs hK=> ?_;refine XM ?_;refine .rt hK func44 results44 [_] ?_;exact okB
 ·have e:pn x=x.toNat-48:=if_neg c1;rw[e];have c2:¬((x.toNat:Nat):Int)=48:=by omega
  have w1:mA .sub .i32 ((x.toNat:Nat):Int) 48=some (.int .i32 ((x.toNat-48:Nat):Int)):=by
   have:IntKind.i32.wrap (((x.toNat:Nat):Int)-48)=((x.toNat-48:Nat):Int):=by
    rw[show((x.toNat:Nat):Int)-48=((x.toNat-48:Nat):Int) by omega];exact IntWalk.i32_in _ ⟨oM,oM⟩
   show some (Value.int _ (IntKind.i32.wrap _))=_;rw[this]
  have w2:IntKind.i64.wrap ((x.toNat-48:Nat):Int)=((x.toNat-48:Nat):Int):=wrap64 oM oM;refine .en func44 ntmps44 fun St c cs hK=> ?_;refine hU ?_;refine .rt hK func44 results44 [_] ?_;exact okB
theorem gX(m:Nat)(hm:m<10):bA M 286 #[.int .i64 (m:Nat)] H (fun v H'=> H.le H'/\v=gA [SG m]):=by
 have e:(([48,49,50,51,52,53,54,55,56,57,97,98,99,100,101,102,103,104,105,106,107,108,109,110,111,112,113,114,115,116,117,118,119,120,121,122]:List UInt8).drop ((m:Nat):Int).toNat).take ((((m:Nat):Int)+1).toNat-((m:Nat):Int).toNat)= [SG m]:=by
  rcases(by omega:m=0\/m=1\/m=2\/m=3\/m=4\/m=5\/m=6\/m=7\/m=8\/m=9) with rfl|rfl|rfl|rfl|rfl|rfl|rfl|rfl|rfl|rfl <;> rfl
 have hl:(([48,49,50,51,52,53,54,55,56,57,97,98,99,100,101,102,103,104,105,106,107,108,109,110,111,112,113,114,115,116,117,118,119,120,121,122]:List UInt8).length:Nat)=36:=rfl;rw[<-e];refine .en func286 ntmps286 fun St c cs hK=> ?_;refine aP ?_;refine .x (pA.kD (E:=en) (l:= [48,49,50,51,52,53,54,55,56,57,97,98,99,100,101,102,103,104,105,106,107,108,109,110,111,112,113,114,115,116,117,118,119,120,121,122]) rfl rfl rfl rfl rfl rfl oM oM oM) ?_;refine U2 ?_;refine .rt hK func286 results286 [_] ?_;exact okB
theorem dS(m:Nat)(hm:m<10):bA M 240 #[.int .i64 (m:Nat),.int .i64 10] H (fun v H'=> H.le H'/\v=gA [SG m]):=by
 refine .en func240 ntmps240 fun St c cs hK=> ?_;refine U25 ?_;refine .cl (fun H hs=> gX M H m hm) ?_;refine U2 ?_;refine .rt hK func240 results240 [_] ?_;exact okB
theorem J5(m:Nat)(hm:m<10):bA M 173 #[.int .i64 (m:Nat)] H (fun v H'=> H.le H'/\v=gA [SG m]):=by
 refine .en func173 ntmps173 fun St c cs hK=> ?_;refine U7 ?_;refine .cl (fun H hs=> dS M H m hm) ?_;refine U2 ?_;refine .rt hK func173 results173 [_] ?_;exact okB
theorem y9(m:Nat)(hm:m<10):bA M 93 #[.int .i64 (m:Nat)] H (fun v H'=> H.le H'/\v=gA [SG m]):=by
 refine .en func93 ntmps93 fun St c cs hK=> ?_;refine U7 ?_;refine .cl (fun H hs=> J5 M H m hm) ?_;refine U2 ?_;refine .rt hK func93 results93 [_] ?_;exact okB
theorem ER(s:List UInt8):bA M 134 #[gA s] H (fun v H'=> H.le H'/\∃b,v=NT b/\wJ s b H'):=by
 refine .en func134 ntmps134 fun St c cs hK=> ?_;refine U2 ?_;refine .bo fun b1=> ?_;refine U7 ?_;refine .rt hK func134 results134 [_] ?_;exact fun H' hs=> ⟨hs.base,b1,rfl,true,hs.get (i:=0) rfl⟩
theorem BO(s:List UInt8)(UP:s.all CD=true)(lU:s.length<=1000)(b1:Nat)(hC:wJ s b1 H):
  tP M (NT b1) (qG s) (fun x (_:Unit)=> [gA x]) (fun _ _=> []) (fun _ _=> []) (wJ s b1) [] H:=fun l J D aC h0 hy H₀ ZD=> by
 refine yB.of (first:= []) (captured:= [_]) aCr rfl ?_;obtain⟨fa,ZZ⟩:=hC;refine bA.enter (vs:= [.func (.yield l) #[] #[],.pointer (some ⟨b1,0,none⟩)]) func221 rfl ntmps221 (Nat.le_of_ble_eq_true rfl) (ZD) fun St c cs hK=> ?_;refine U3 ?_;refine .e (Or.AR (E:=en) (s:=⟨⟨s⟩⟩) rfl rfl rfl rfl rfl dE (fun it=> ?_));refine U2 ?_;refine Tc.db (Tc.oJ (σ:= { x:Nat×View//x.1<=s.length/\J (cC s x.1) x.2 })
  (fun x=> (x.1.2,[(0,.func (.yield l) #[] #[]),(1,.pointer (some ⟨b1,0,none⟩)),(8,.pointer (some ⟨it,0,none⟩))],[(it,true,.stringIter ⟨⟨s⟩⟩ x.1.1)])) (fun x=> s.length-x.1.1) ?_ ⟨(0,H),Nat.zero_le _,h0⟩)
 rintro⟨⟨p,H₁⟩,g1,j1⟩ ih₁;simp only at g1 j1;show Tc M St _ _ H₁ _ [(0,.func (.yield l) #[] #[]),(1,.pointer (some ⟨b1,0,none⟩)),(8,.pointer (some ⟨it,0,none⟩))] [(it,true,.stringIter ⟨⟨s⟩⟩ p)] _ _;by_cases c1:p=s.length
 ·subst c1;rw[sJ (Nat.le_refl _)] at j1;have Z4:¬s.length<(ByteArray.mk ⟨s⟩).size:=by show ¬s.length<s.length;omega
  refine U2 ?_;refine .e (Or.uR 0 rfl rfl rfl Z4 rfl dE ?_);refine U5 ?_;refine .ov hK func221 results221 [] ?_;exact fun H' hs=> ⟨H₁,hs.base,.inl j1⟩
 ·have c2:p<s.length:=by omega
  obtain⟨x,hx,hdx,OM⟩:=OQ s p c2 UP;have hpn:=W2 hdx;have VR:p<(ByteArray.mk ⟨s⟩).size:=c2;have m7:lP s p=pn x:=by unfold lP;rw[hx];rfl
  rw[nP c2] at j1;refine U2 ?_;refine .e (Or.jO 0 rfl rfl rfl VR OM rfl dE ?_);refine aP ?_;refine .cl (fun H hs=> pO M H x hdx) ?_;refine U2 ?_;refine .cl (fun H hs=> pO M H x hdx) ?_;refine U5 ?_;refine Tc.db (Tc.oJ (σ:= { y:Nat×View//y.1<=2/\J (OD s p y.1) y.2 })
   (fun y=> (y.1.2,[(0,.func (.yield l) #[] #[]),(1,.pointer (some ⟨b1,0,none⟩)),(3,.int .i64 (p:Nat)),(8,.pointer (some ⟨it,0,none⟩)),(19,.agg ⟨[.int .i64 ((pn x:Nat)-1:Int),.int .i64 ((pn x:Nat)+1:Int)]⟩),(20,.int .i64 (y.1.1:Nat))],[(it,true,.stringIter ⟨⟨s⟩⟩ (p+1))])) (fun y=> 2-y.1.1) ?_ ⟨(0,H₁),oM,j1⟩)
  rintro⟨⟨j,H₂⟩,g2,j2⟩ ih₂;simp only at g2 j2;show Tc M St _ _ H₂ _ [(0,.func (.yield l) #[] #[]),(1,.pointer (some ⟨b1,0,none⟩)),(3,.int .i64 (p:Nat)),(8,.pointer (some ⟨it,0,none⟩)),(19,.agg ⟨[.int .i64 ((pn x:Nat)-1:Int),.int .i64 ((pn x:Nat)+1:Int)]⟩),(20,.int .i64 (j:Nat))] [(it,true,.stringIter ⟨⟨s⟩⟩ (p+1))] _ _;by_cases c3:j=2
  ·subst c3;rw[DR] at j2;refine U8 ?_;exact Tc.db (ih₁ ⟨(p+1,H₂),by simp only;omega,j2⟩ (by simp only;omega))
  ·have c4:j<2:=by omega
   obtain⟨m,hm⟩:∃m,AO s p j=m:=⟨_,rfl⟩
   have f1:tE false 1 [Value.int .i64 ((pn x:Nat)-1:Int),.int .i64 ((pn x:Nat)+1:Int)] (((j:Nat):Int).toNat*1)=some (.int .i64 (m:Nat)):=by
    rw[<-hm];unfold AO;rw[m7];rcases(by omega:j=0\/j=1) with rfl|rfl
    ·show some (Value.int .i64 _)=some (Value.int .i64 _)
     congr 2
     simp only[if_pos];omega
    ·show some (Value.int .i64 _)=some (Value.int .i64 _)
     congr 2
   have hmb:m<=11:=by rw[<-hm];unfold AO;rw[m7];split <;> omega
   rw[mP s p j c4,hm] at j2;obtain⟨fc,hc1⟩:=aC _ _ j2;by_cases c5:1<=((m:Nat):Int)/\((m:Nat):Int)<=10
   ·have e1:kI s p m= [slip s p m]:=if_pos oM;rw[e1] at j2;have a2:mA .rem .i64 (m:Nat) 10=some (.int .i64 ((m%10:Nat):Int)):=by rw[rem_in oM oM];rfl
    have JD:slip s p m∈qG s:=by
     refine kP.2 ⟨p,Nat.zero_le _,c2,?_⟩;have hm2:m=lP s p-1\/m=lP s p+1:=by rw[<-hm];unfold AO;split <;> simp
     unfold gH;rcases hm2 with h|h
     ·rw[List.mem_append];exact .inl (by rw[<-h,e1];simp)
     ·rw[List.mem_append];exact .inr (by rw[<-h,e1];simp)
    have e2:(s.drop ((0:Nat):Int).toNat).take (((p:Nat):Int).toNat-((0:Nat):Int).toNat)++[SG (m%10)]++(s.drop (((p:Nat):Int)+1).toNat).take (((s.length:Nat):Int).toNat-(((p:Nat):Int)+1).toNat)=slip s p m:=by
     have e3:(((p:Nat):Int)+1).toNat=p+1:=by omega
     rw[yW,e3];unfold slip;simp
     exact List.take_of_length_le (by rw[List.length_drop];exact Nat.le_refl _)
    have hlen:(slip s p m).length<=1001:=by
     unfold slip;simp
     omega
    refine qE ?_;refine .x (pA.index (E:=en) rfl rfl rfl rfl rfl rfl oM oM (by assumption)) ?_;refine U3 ?_;refine Tc.drC [] [16] [] mixed rfl ?_;refine .oo 0 ?_;refine Ta.SV 1 kR rfl rfl dE rfl rfl (pA.tk fun H hs=> uA M H (m:Nat) 1 10 true (decide_eq_true c5)) ?_;refine .oo 2 ?_;refine .oo 3 ?_;refine .oo 4 ?_;refine .oo 5 ?_;refine Ta.SV 6 kR rfl rfl dE rfl rfl (pA.take (pA.kD (E:=en) rfl rfl rfl rfl rfl rfl oM oM oM)) ?_;refine .oo 7 ?_;refine .oo 8 ?_;refine Ta.SV 9 kR rfl rfl dE rfl rfl (pA.tk fun H hs=> y9 M H (m%10) (Nat.mod_lt _ dE)) ?_;refine Ta.SV 10 kR rfl rfl dE rfl rfl (pA.take (pA.HC rfl rfl rfl (by exact UE (by simp <;> omega)))) ?_;refine .oo 11 ?_;refine .oo 12 ?_;refine .oo 13 ?_;refine Ta.SV 14 kR rfl rfl dE rfl rfl (pA.take (pA.kD (E:=en) rfl rfl rfl rfl rfl rfl oM oM oM)) ?_;refine Ta.SV 15 kR rfl rfl dE rfl rfl (pA.take (pA.HC rfl rfl rfl (by exact UE (by simp <;> omega)))) ?_;rw[e2];refine Ta.uB 16 kR rfl kR rfl rfl rfl rfl rfl rfl dE (hy (slip s p m) (OD s p (j+1)) () H₂ H₂ JD j2 (iA.nil H₂)) (fun v H₃ hv=> ?_);rcases hv with ⟨rfl,H4,h8,j3⟩|⟨rfl,hD⟩
    ·refine Ta.lower h8.base ?_;refine .ea 17 rfl (Or.ZW .nt rfl dE ⟨S3.off kR,?_⟩);refine .ea 18 rfl (Or.ZW .pk rfl dE ⟨S3.off kR,?_⟩);refine .dn ?_;refine U7 ?_;exact Tc.db (ih₂ ⟨(j+1,H4),by simp only;omega,j3⟩ (by simp only;omega))
    ·refine .ea 17 rfl (Or.ZW .nt rfl dE ⟨S3.off kR,?_⟩);refine .ea 18 rfl (Or.ZW .pk rfl dE ⟨S3.off kR,?_⟩);refine .dn ?_;refine U ?_;refine .rt hK func221 results221 [] ?_;exact fun H' hs=> ⟨H₃,hs.base,.inr hD⟩
   ·have e1:kI s p m= []:=if_neg oM;rw[e1] at j2;refine qE ?_;refine .x (pA.index (E:=en) rfl rfl rfl rfl rfl rfl oM oM (by assumption)) ?_;refine U3 ?_;refine Tc.dr [] [] mixed rfl ?_;refine .nn 0 ?_;refine .z 1 rfl (pA.tk fun H hs=> uA M H (m:Nat) 1 10 false (decide_eq_false c5)) ?_;refine .nn 2 ?_;refine .nw 3 ?_;refine .nw 4 ?_;refine .nw 5 ?_;refine .nw 6 ?_;refine .nw 7 ?_;refine .nw 8 ?_;refine .nw 9 ?_;refine .nw 10 ?_;refine .nw 11 ?_;refine .nw 12 ?_;refine .nw 13 ?_;refine .nw 14 ?_;refine .nw 15 ?_;refine .nw 16 ?_;refine .nw 17 ?_;refine .nn 18 ?_;refine .dn ?_;refine U7 ?_;exact Tc.db (ih₂ ⟨(j+1,H₂),by simp only;omega,j2⟩ (by simp only;omega))
end
end Go.Proofs.YtldmfjcgjdchcaaGreatDoor
namespace Go.Proofs.YtldmfjcgjdchcaaGreatDoor
open Go.RL Go.Proofs.Tryz
set_option maxRecDepth 10000
def tA(l:List Int)(i:Nat):Int:=l[i]?.getD 0
def gB(l:List Int)(p q:Nat):List Int:=(l.set p (tA l q)).set q (tA l p)
theorem SL(l:List Int)(p q:Nat):(gB l p q).length=l.length:=by simp[gB]
theorem mC {l:List Int}{p q:Nat}(hp:p<l.length)(hq:q<l.length)(r:Nat):tA (gB l p q) r=if r=q then tA l p else if r=p then tA l q else tA l r:=by
 unfold gB tA;rw[List.getElem?_set];by_cases h1:q=r
 ·subst h1;rw[if_pos rfl,if_pos (by rw[List.length_set];exact hq),if_pos rfl];rfl
 ·rw[if_neg h1,if_neg (fun h=> h1 h.symm),List.getElem?_set];by_cases h2:p=r
  ·subst h2;rw[if_pos rfl,if_pos hp,if_pos rfl];rfl
  ·rw[if_neg h2,if_neg (fun h=> h2 h.symm)]
theorem QT {l:List Int}{p q:Nat}(hp:p<l.length)(hq:q<l.length)(x:Int):(gB l p q).count x=l.count x:=by
 unfold gB tA;rw[List.getElem?_eq_getElem hp,List.getElem?_eq_getElem hq];simp only[Option.getD_some];rw[List.count_set (by rw[List.length_set];exact hq),List.count_set hp,List.getElem_set];have h1:∀ {i:Nat} (h:i<l.length),l[i]=x->0<l.count x:=fun h e=> List.count_pos_iff.2 (e▸List.getElem_mem h);by_cases e:p=q
 ·subst e;simp only[if_true];by_cases e2:l[p]=x
  ·have:=h1 hp e2;simp only[e2,beq_self_eq_true,if_true];omega
  ·have e3:(l[p]==x)=false:=by simpa using e2
   simp only[e3,Bool.false_eq_true,if_false];omega
 ·simp only[if_neg e];by_cases e2:l[p]=x <;> by_cases e3:l[q]=x
  ·have:=h1 hp e2;simp only[e2,e3,beq_self_eq_true,if_true];omega
  ·have e4:(l[q]==x)=false:=by simpa using e3
   have:=h1 hp e2;simp only[e2,e4,beq_self_eq_true,if_true,Bool.false_eq_true,if_false];omega
  ·have e4:(l[p]==x)=false:=by simpa using e2
   have:=h1 hq e3;simp only[e3,e4,beq_self_eq_true,if_true,Bool.false_eq_true,if_false];omega
  ·have e4:(l[p]==x)=false:=by simpa using e2
   have e5:(l[q]==x)=false:=by simpa using e3
   simp only[e4,e5,Bool.false_eq_true,if_false];omega
structure lA(a b:Nat)(l m:List Int):Prop where
 len:m.length=l.length
 cnt:∀x,m.count x=l.count x
 out:∀i,i<a\/b<=i->tA m i=tA l i
theorem lA.refl(a b:Nat)(l:List Int):lA a b l l:=⟨rfl,fun _=> rfl,fun _ _=> rfl⟩
theorem lA.trans {a b:Nat}{l m n:List Int}(h:lA a b l m)(k:lA a b m n):lA a b l n:=⟨k.len.trans h.len,fun x=> (k.cnt x).trans (h.cnt x),fun i hi=> (k.out i hi).trans (h.out i hi)⟩
theorem lA.wide {a b a' b':Nat}{l m:List Int}(h:lA a b l m)(h1:a'<=a)(h2:b<=b'):lA a' b' l m:=⟨h.len,h.cnt,fun i hi=> h.out i oM⟩
theorem lA.swap {a b:Nat}{l:List Int}{p q:Nat}(hp:p<l.length)(hq:q<l.length)(h1:a<=p/\p<b)(h2:a<=q/\q<b):lA a b l (gB l p q):=
 ⟨SL ..,QT hp hq,fun i hi=> by rw[mC hp hq,if_neg oM,if_neg oM]⟩
def pE(a b:Nat)(l:List Int):Prop:=∀p q,a<=p->p<q->q<b->tA l p<=tA l q
theorem lA.mem {a b:Nat}{l m:List Int}(h:lA a b l m)(x:Int):x∈m<->x∈l:=by
 rw[<-List.count_pos_iff,<-List.count_pos_iff,h.cnt x]
theorem rA {l:List Int}{p:Nat}(h:p<l.length):tA l p∈l:=by
 unfold tA;rw[List.getElem?_eq_getElem h];exact List.getElem_mem h
set_option maxHeartbeats 8000000
theorem iX(l:List Value)(i:Nat)(v:Value)(h:i<l.length):uG l i [v]=l.set i v:=by
 unfold uG;rw[List.set_eq_take_append_cons_drop,if_pos h];simp
def nA(dec:Int->List UInt8)(m:List Int):List Value:=m.map fun x=> gA (dec x)
theorem GB(dec:Int->List UInt8)(m:List Int):(nA dec m).length=m.length:=by simp[nA]
def HM(dec:Int->List UInt8)(l:List Int):Prop:=∀x∈l,∀y∈l,Op.bytesLess (dec x) (dec y)=decide (x<y)
theorem HM.WC {dec:Int->List UInt8}{l m:List Int}{a b:Nat}(h:HM dec l)(t:lA a b l m):HM dec m:=fun x hx y hy=> h x ((t.mem x).1 hx) y ((t.mem y).1 hy)
theorem uF {H₀ H H':View}{L:Bl}(h:iA H₀ L H){i sb:Nat}{x y:Bool×Obj}(hi:L[i]? =some (sb,x))(h1:∀b z,b≠sb->H b=some z->H' b=some z)(h2:H' sb=some y):iA H₀ (L.set i (sb,y)) H':=
 (h.set hi y).mono fun b z hb=> by
  by_cases e:b=sb
  ·subst e;rw[View.jB] at hb;rw[h2,hb]
  ·rw[View.GA _ _ e] at hb;exact h1 b z e hb
def YA(dec:Int->List UInt8)(H:View)(sb:Nat)(j:List Value)(P:Value->List Int->Prop)(v:Value)(H':View):Prop:=
 (∀b x,b≠sb->H b=some x->H' b=some x)/\∃m,P v m/\H' sb=some (true,.cells ⟨(nA dec m)++j⟩ 9 (0,0))
theorem YA.of {dec:Int->List UInt8}{H H':View}{sb:Nat}{j:List Value}{P:Value->List Int->Prop}{v:Value}{L:Bl}{m:List Int}(hs:iA (H.BD sb) L H'){i:Nat}(hi:L[i]? =some (sb,true,.cells ⟨(nA dec m)++j⟩ 9 (0,0)))(hP:P v m):YA dec H sb j P v H':=
 ⟨fun b x hb hx=> hs.base b x (by rw[UA hb];exact hx),m,hP,hs.get hi⟩
theorem Or.lE {dec:Int->List UInt8}{M:Md prog}{n:Nat}{H₀:View}{R:Rg}{L:Bl}{o:Oper}{K:Rg->Bl->Prop}{cl:Go.Call}{x:Operand}{fv:Value}{az:List Value}{d:Nat}(i:Nat){sb:Nat}{l:List Int}{j:List Value}(P:Value->List Int->Prop)
  (kA:o.op=.call cl) (iB:cl.callee=.value x) (hx:HA R x=some fv) (has:VC R cl.args.toList=some az) (hd:o.dst=some d) (hn:d<n) (hi:L[i]? =some (sb,true,.cells ⟨(nA dec l)++j⟩ 9 (0,0)))
  (hc:∀H,iA H₀ L H->yB M fv az H (YA dec H sb j P)) (hk:∀v m,P v m->K ((d,v)::R) (L.set i (sb,true,.cells ⟨(nA dec m)++j⟩ 9 (0,0)))):Or M n H₀ R L o K:=
 .wN kA iB hx has (Q:=fun H v H'=> YA dec H sb j P v H') hc fun H v H' hs ⟨h1,m,h2,h3⟩=>
  ⟨_,_,uF hs hi h1 h3,by rw[hd];exact⟨hn,rfl⟩,hk v m h2⟩
theorem qA {dec:Int->List UInt8}{m:List Int}{j:List Value}{k:Int}{p:Nat}(hk:k=(p:Nat))(hp:p<m.length):tE false 1 ((nA dec m)++j) (0+k.toNat*1)=some (gA (dec (tA m p))):=by
 subst hk;show((nA dec m)++j)[0+(p:Int).toNat*1]? =_;rw[Nat.zero_add,Nat.mul_one,Int.toNat_natCast,List.getElem?_append_left (by rw[GB];exact hp)];unfold nA tA;rw[List.getElem?_map,List.getElem?_eq_getElem hp];rfl
theorem yA {dec:Int->List UInt8}{m:List Int}{j:List Value}{k x:Int}{p:Nat}(hk:k=(p:Nat))(hp:p<m.length):uG ((nA dec m)++j) (0+k.toNat*1) [gA (dec (x))]=(nA dec (m.set p x))++j:=by
 subst hk;rw[Nat.zero_add,Nat.mul_one,Int.toNat_natCast,iX _ _ _ (by rw[List.length_append,GB];omega),List.set_append_left _ _ (by rw[GB];exact hp)];unfold nA;rw[List.map_set]
theorem xA {dec:Int->List UInt8}{m:List Int}{j:List Value}{k:Int}{p:Nat}(hk:k=(p:Nat))(hp:p<m.length):Nat.ble (0+k.toNat*1+1) ((nA dec m)++j).length=true:=by
 subst hk;rw[Nat.ble_eq,List.length_append,GB,Int.toNat_natCast];omega
section
variable(M:Md prog)(H:View)
theorem J1(s:List UInt8):bA M 306 #[gA s] H (fun v H'=> H.le H'/\v=.bool false):=by
 refine .en func306 ntmps306 fun St c cs hK=> ?_;refine qE ?_;refine .rt hK func306 results306 [_] ?_;exact fun H' hs=> ⟨hs.base,by simp[aE]⟩
theorem M5(s p:List UInt8):bA M 262 #[gA s,gA p] H (fun v H'=> H.le H'/\v=.bool (Op.bytesLess s p)):=by
 refine .en func262 ntmps262 fun St c cs hK=> ?_;refine U7 ?_;refine .cl (fun H hs=> J1 M H s) ?_;refine PF ?_;refine .rt hK func262 results262 [_] ?_;exact okB
theorem VB {dec:Int->List UInt8}{l:List Int}(hE:HM dec l){x y:Int}(hx:x∈l)(hy:y∈l)(t:Bool)(ht:decide (x<y)=t):bA M 262 #[gA (dec x),gA (dec y)] H (fun v H'=> H.le H'/\v=.bool t):=
 OF (M5 M H (dec x) (dec y)) ((hE x hx y hy).trans ht)
end
theorem jR {m:List Int}{a i j:Nat}(hg:∀p q,a<=p->p<q->q<=i->q≠j->tA m p<=tA m q)(hj:a<j)(hle:¬tA m j<tA m (j-1)):pE a (i+1) m:=fun p q h1 h2 h3=> by
 by_cases e:q=j
 ·subst e;have h4:tA m p<=tA m (q-1):=by
   by_cases e2:p=q-1
   ·rw[e2];exact Int.le_refl _
   ·exact hg p (q-1) h1 oM oM oM
  omega
 ·exact hg p q h1 h2 oM e
theorem VN {m:List Int}{a i j:Nat}(hi:i<m.length)(kM:j<=i)(hg:∀p q,a<=p->p<q->q<=i->q≠j->tA m p<=tA m q)(hj:a<j)(xB:tA m j<tA m (j-1)):
  ∀p q,a<=p->p<q->q<=i->q≠j-1->tA (gB m j (j-1)) p<=tA (gB m j (j-1)) q:=fun p q h1 h2 h3 h4=> by
 rw[mC oM oM,mC oM oM,if_neg h4];by_cases e:q=j
 ·rw[if_pos e];by_cases e2:p=j-1
  ·rw[if_pos e2];omega
  ·rw[if_neg e2,if_neg oM];exact hg p (j-1) h1 oM oM oM
 ·rw[if_neg e];by_cases e2:p=j-1
  ·rw[if_pos e2];exact hg j q oM oM h3 e
  ·rw[if_neg e2];by_cases e3:p=j
   ·rw[if_pos e3];exact hg (j-1) q oM oM h3 e
   ·rw[if_neg e3];exact hg p q h1 h2 h3 e
section
variable(M:Md prog)(H:View)
theorem DK(dec:Int->List UInt8)(sb:Nat)(l:List Int)(jj:List Value)(n cap a b:Nat)(hn:n=l.length)(hE:HM dec l)(hb:b<=n)(RE:n<=100000000)(ha:a<=n)(hS:H sb=some (true,.cells ⟨(nA dec l)++jj⟩ 9 (0,0))):
  bA M 256 #[.slice (some ⟨sb,0,none⟩) n cap,.int .i64 (a:Nat),.int .i64 (b:Nat)] H (YA dec H sb jj (fun v m=> v=.tuple ⟨[]⟩/\lA a b l m/\pE a b m)):=by
 refine bA.enter (vs:= [.slice (some ⟨sb,0,none⟩) n cap,.int .i64 (a:Nat),.int .i64 (b:Nat)]) func256 rfl ntmps256 (Nat.le_of_ble_eq_true rfl) (iA.pull hS) fun St c cs hK=> ?_;have ha1:mA .add .i64 (a:Nat) 1=some (.int .i64 ((a+1:Nat):Int)):=by rw[lB oM oM];rfl
 refine U7 ?_;refine Tc.db (Tc.sA (σ:= { s:Nat×List Int//a+1<=s.1/\(s.1<=b\/s.1=a+1)/\lA a b l s.2/\pE a s.1 s.2 }) (fun s=> ([(0,.slice (some ⟨sb,0,none⟩) n cap),(1,.int .i64 (a:Nat)),(2,.int .i64 (b:Nat)),(6,.int .i64 (s.1.1:Nat))],[(sb,true,.cells ⟨(nA dec s.1.2)++jj⟩ 9 (0,0))])) (fun s=> b-s.1.1) ?_
  ⟨(a+1,l),by simp,by simp,lA.refl ..,fun p q h1 h2 h3=> by omega⟩)
 rintro⟨⟨i,m⟩,g1,g2,g3,g4⟩ ih;simp only at g1 g2 g3 g4;show Tc M St _ _ _ _ [(0,.slice (some ⟨sb,0,none⟩) n cap),(1,.int .i64 (a:Nat)),(2,.int .i64 (b:Nat)),(6,.int .i64 (i:Nat))] [(sb,true,.cells ⟨(nA dec m)++jj⟩ 9 (0,0))] _ _;by_cases c1:i<b
 ·have QN:=g3.len;have hi1:mA .add .i64 (i:Nat) 1=some (.int .i64 ((i+1:Nat):Int)):=by rw[lB oM oM];rfl
  refine TJ ?_;refine Tc.db (Tc.sA (σ:= { s:Nat×List Int//a<=s.1/\s.1<=i/\lA a b l s.2/\∀p q,a<=p->p<q->q<=i->q≠s.1->tA s.2 p<=tA s.2 q }) (fun s=> ([(0,.slice (some ⟨sb,0,none⟩) n cap),(1,.int .i64 (a:Nat)),(2,.int .i64 (b:Nat)),(6,.int .i64 (i:Nat)),(7,.int .i64 (s.1.1:Nat))],[(sb,true,.cells ⟨(nA dec s.1.2)++jj⟩ 9 (0,0))])) (fun s=> s.1.1) ?_
   ⟨(i,m),by simp only;omega,by simp only;omega,g3,fun p q h1 h2 h3 h4=> g4 p q h1 h2 (by simp only at h4;omega)⟩)
  rintro⟨⟨j,u⟩,f1,f2,f3,f4⟩ ih2;simp only at f1 f2 f3 f4;have nM:=f3.len;have FI:=hE.WC f3;show Tc M St _ _ _ _ [(0,.slice (some ⟨sb,0,none⟩) n cap),(1,.int .i64 (a:Nat)),(2,.int .i64 (b:Nat)),(6,.int .i64 (i:Nat)),(7,.int .i64 (j:Nat))] [(sb,true,.cells ⟨(nA dec u)++jj⟩ 9 (0,0))] _ _;by_cases c2:a<j
  ·have e1:((j:Nat):Int)-1=((j-1:Nat):Int):=by omega
   have k1:=qA (dec:=dec) (m:=u) (j:=jj) (k:=(j:Nat)) (p:=j) rfl oM;have k2:=qA (dec:=dec) (m:=u) (j:=jj) (k:=(j:Nat)-1) (p:=j-1) e1 oM;by_cases c3:tA u j<tA u (j-1)
   ·have s1:=yA (dec:=dec) (m:=u) (j:=jj) (k:=(j:Nat)) (x:=tA u (j-1)) (p:=j) rfl oM;have s2:=yA (dec:=dec) (m:=u.set j (tA u (j-1))) (j:=jj) (k:=(j:Nat)-1) (x:=tA u j) (p:=j-1) e1 (by rw[List.length_set];omega);have l1:=xA (dec:=dec) (m:=u) (j:=jj) (k:=(j:Nat)) (p:=j) rfl oM;have l2:=xA (dec:=dec) (m:=u.set j (tA u (j-1))) (j:=jj) (k:=(j:Nat)-1) (p:=j-1) e1 (by rw[List.length_set];omega);refine U2 ?_;refine Tc.dr [] [] mixed rfl ?_;refine I9 0 ?_;refine .z 13 rfl (pA.tk fun H hs=> VB M H FI (rA oM) (rA oM) true (decide_eq_true c3)) ?_;refine .nn 14 ?_;refine .dn ?_;refine U4 ?_;refine Tc.dr [15,17] [0] mixed rfl ?_;refine V2 0 ?_;refine .nw 2 ?_;refine .nw 3 ?_;refine .nw 4 ?_;refine V5 5 ?_;refine .nw 10 ?_;refine .nw 11 ?_;refine .nw 12 ?_;refine V2 13 ?_;refine .e 15 0 ?_;refine .nw 16 ?_;refine .e 17 0 ?_;refine .dn ?_;refine U6 ?_;rw[e1];exact Tc.db (ih2 ⟨(j-1,gB u j (j-1)),by simp only;omega,by simp only;omega,f3.trans (lA.swap oM oM oM oM),VN oM f2 f4 c2 c3⟩ (by simp only;omega))
   ·refine U2 ?_;refine Tc.dr [] [] mixed rfl ?_;refine I9 0 ?_;refine .z 13 rfl (pA.tk fun H hs=> VB M H FI (rA oM) (rA oM) false (decide_eq_false c3)) ?_;refine .nn 14 ?_;refine .dn ?_;refine U8 ?_;exact Tc.db (ih ⟨(i+1,u),by simp only;omega,by simp only;omega,f3,jR f4 c2 c3⟩ (by simp only;omega))
  ·refine U2 ?_;refine Tc.dr [] [] mixed rfl ?_;refine V4 0 ?_;refine .nw 4 ?_;refine .nw 5 ?_;refine .nw 6 ?_;refine .nw 7 ?_;refine .nw 8 ?_;refine .nw 9 ?_;refine .nw 10 ?_;refine .nw 11 ?_;refine .nw 12 ?_;refine .nw 13 ?_;refine .nn 14 ?_;refine .dn ?_;refine U8 ?_;exact Tc.db (ih ⟨(i+1,u),by simp only;omega,by simp only;omega,f3,fun p q h1 h2 h3=> f4 p q h1 h2 oM oM⟩ (by simp only;omega))
 ·refine U9 ?_;refine .ov hK func256 results256 [] ?_;exact fun H' hs=> YA.of hs (i:=0) rfl ⟨rfl,g3,fun p q h1 h2 h3=> g4 p q h1 h2 oM⟩
end
def IA(m:List Int):List Value:=m.map fun x=> .int .i64 x
theorem RB(m:List Int):(IA m).length=m.length:=by simp[IA]
def UC(H:View)(sb:Nat)(j:List Value)(P:Value->List Int->Prop)(v:Value)(H':View):Prop:=
 (∀b x,b≠sb->H b=some x->H' b=some x)/\∃m,P v m/\H' sb=some (true,.cells ⟨(IA m)++j⟩ 3 (0,0))
theorem UC.of {H H':View}{sb:Nat}{j:List Value}{P:Value->List Int->Prop}{v:Value}{L:Bl}{m:List Int}(hs:iA (H.BD sb) L H'){i:Nat}(hi:L[i]? =some (sb,true,.cells ⟨(IA m)++j⟩ 3 (0,0)))(hP:P v m):UC H sb j P v H':=
 ⟨fun b x hb hx=> hs.base b x (by rw[UA hb];exact hx),m,hP,hs.get hi⟩
theorem Or.FR {M:Md prog}{n:Nat}{H₀:View}{R:Rg}{L:Bl}{o:Oper}{K:Rg->Bl->Prop}{cl:Go.Call}{x:Operand}{fv:Value}{az:List Value}{d:Nat}(i:Nat){sb:Nat}{l:List Int}{j:List Value}(P:Value->List Int->Prop)
  (kA:o.op=.call cl) (iB:cl.callee=.value x) (hx:HA R x=some fv) (has:VC R cl.args.toList=some az) (hd:o.dst=some d) (hn:d<n) (hi:L[i]? =some (sb,true,.cells ⟨(IA l)++j⟩ 3 (0,0)))
  (hc:∀H,iA H₀ L H->yB M fv az H (UC H sb j P)) (hk:∀v m,P v m->K ((d,v)::R) (L.set i (sb,true,.cells ⟨(IA m)++j⟩ 3 (0,0)))):Or M n H₀ R L o K:=
 .wN kA iB hx has (Q:=fun H v H'=> UC H sb j P v H') hc fun H v H' hs ⟨h1,m,h2,h3⟩=>
  ⟨_,_,uF hs hi h1 h3,by rw[hd];exact⟨hn,rfl⟩,hk v m h2⟩
theorem rL {m:List Int}{j:List Value}{k:Int}{p:Nat}(hk:k=(p:Nat))(hp:p<m.length):tE false 1 ((IA m)++j) (0+k.toNat*1)=some (.int .i64 (tA m p)):=by
 subst hk;show((IA m)++j)[0+(p:Int).toNat*1]? =_;rw[Nat.zero_add,Nat.mul_one,Int.toNat_natCast,List.getElem?_append_left (by rw[RB];exact hp)];unfold IA tA;rw[List.getElem?_map,List.getElem?_eq_getElem hp];rfl
theorem uL {m:List Int}{j:List Value}{k x:Int}{p:Nat}(hk:k=(p:Nat))(hp:p<m.length):uG ((IA m)++j) (0+k.toNat*1) [.int .i64 (x)]=(IA (m.set p x))++j:=by
 subst hk;rw[Nat.zero_add,Nat.mul_one,Int.toNat_natCast,iX _ _ _ (by rw[List.length_append,RB];omega),List.set_append_left _ _ (by rw[RB];exact hp)];unfold IA;rw[List.map_set]
theorem tL {m:List Int}{j:List Value}{k:Int}{p:Nat}(hk:k=(p:Nat))(hp:p<m.length):Nat.ble (0+k.toNat*1+1) ((IA m)++j).length=true:=by
 subst hk;rw[Nat.ble_eq,List.length_append,RB,Int.toNat_natCast];omega
section
variable(M:Md prog)(H:View)
theorem fT(s:Int):bA M 310 #[.int .i64 s] H (fun v H'=> H.le H'/\v=.bool false):=by
 refine .en func310 ntmps310 fun St c cs hK=> ?_;refine qE ?_;refine .rt hK func310 results310 [_] ?_;exact okB
theorem iW(a b:Int)(t:Bool)(ht:decide (a<b)=t):bA M 278 #[.int .i64 a,.int .i64 b] H (fun v H'=> H.le H'/\v=.bool t):=by
 rw[<-ht];refine .en func278 ntmps278 fun St c cs hK=> ?_;by_cases c1:a<b
 ·have e:decide (a<b)=true:=decide_eq_true c1;rw[e] at hK;refine U7 ?_;refine .cl (fun H hs=> fT M H a) ?_;refine PF ?_;refine .rt hK func278 results278 [_] ?_;exact okB
 ·have e:decide (a<b)=false:=decide_eq_false c1;rw[e] at hK;refine U7 ?_;refine .cl (fun H hs=> fT M H a) ?_;refine PF ?_;refine .rt hK func278 results278 [_] ?_;exact okB
end
section
variable(M:Md prog)(H:View)
theorem lR(sb:Nat)(l:List Int)(jj:List Value)(n cap a b:Nat)(hn:n=l.length)(hb:b<=n)(RE:n<=1000000)(ha:a<=n)(hS:H sb=some (true,.cells ⟨(IA l)++jj⟩ 3 (0,0))):
  bA M 272 #[.slice (some ⟨sb,0,none⟩) n cap,.int .i64 (a:Nat),.int .i64 (b:Nat)] H (UC H sb jj (fun v m=> v=.tuple ⟨[]⟩/\lA a b l m/\pE a b m)):=by
 refine bA.enter (vs:= [.slice (some ⟨sb,0,none⟩) n cap,.int .i64 (a:Nat),.int .i64 (b:Nat)]) func272 rfl ntmps272 (Nat.le_of_ble_eq_true rfl) (iA.pull hS) fun St c cs hK=> ?_;have ha1:mA .add .i64 (a:Nat) 1=some (.int .i64 ((a+1:Nat):Int)):=by rw[lB oM oM];rfl
 refine U7 ?_;refine Tc.db (Tc.sA (σ:= { s:Nat×List Int//a+1<=s.1/\(s.1<=b\/s.1=a+1)/\lA a b l s.2/\pE a s.1 s.2 }) (fun s=> ([(0,.slice (some ⟨sb,0,none⟩) n cap),(1,.int .i64 (a:Nat)),(2,.int .i64 (b:Nat)),(6,.int .i64 (s.1.1:Nat))],[(sb,true,.cells ⟨(IA s.1.2)++jj⟩ 3 (0,0))])) (fun s=> b-s.1.1) ?_
  ⟨(a+1,l),by simp,by simp,lA.refl ..,fun p q h1 h2 h3=> by omega⟩)
 rintro⟨⟨i,m⟩,g1,g2,g3,g4⟩ ih;simp only at g1 g2 g3 g4;show Tc M St _ _ _ _ [(0,.slice (some ⟨sb,0,none⟩) n cap),(1,.int .i64 (a:Nat)),(2,.int .i64 (b:Nat)),(6,.int .i64 (i:Nat))] [(sb,true,.cells ⟨(IA m)++jj⟩ 3 (0,0))] _ _;by_cases c1:i<b
 ·have QN:=g3.len;have hi1:mA .add .i64 (i:Nat) 1=some (.int .i64 ((i+1:Nat):Int)):=by rw[lB oM oM];rfl
  refine TJ ?_;refine Tc.db (Tc.sA (σ:= { s:Nat×List Int//a<=s.1/\s.1<=i/\lA a b l s.2/\∀p q,a<=p->p<q->q<=i->q≠s.1->tA s.2 p<=tA s.2 q }) (fun s=> ([(0,.slice (some ⟨sb,0,none⟩) n cap),(1,.int .i64 (a:Nat)),(2,.int .i64 (b:Nat)),(6,.int .i64 (i:Nat)),(7,.int .i64 (s.1.1:Nat))],[(sb,true,.cells ⟨(IA s.1.2)++jj⟩ 3 (0,0))])) (fun s=> s.1.1) ?_
   ⟨(i,m),by simp only;omega,by simp only;omega,g3,fun p q h1 h2 h3 h4=> g4 p q h1 h2 (by simp only at h4;omega)⟩)
  rintro⟨⟨j,u⟩,f1,f2,f3,f4⟩ ih2;simp only at f1 f2 f3 f4;have nM:=f3.len
   
  show Tc M St _ _ _ _ [(0,.slice (some ⟨sb,0,none⟩) n cap),(1,.int .i64 (a:Nat)),(2,.int .i64 (b:Nat)),(6,.int .i64 (i:Nat)),(7,.int .i64 (j:Nat))] [(sb,true,.cells ⟨(IA u)++jj⟩ 3 (0,0))] _ _;by_cases c2:a<j
  ·have e1:((j:Nat):Int)-1=((j-1:Nat):Int):=by omega
   have k1:=rL (m:=u) (j:=jj) (k:=(j:Nat)) (p:=j) rfl oM;have k2:=rL (m:=u) (j:=jj) (k:=(j:Nat)-1) (p:=j-1) e1 oM;by_cases c3:tA u j<tA u (j-1)
   ·have s1:=uL (m:=u) (j:=jj) (k:=(j:Nat)) (x:=tA u (j-1)) (p:=j) rfl oM;have s2:=uL (m:=u.set j (tA u (j-1))) (j:=jj) (k:=(j:Nat)-1) (x:=tA u j) (p:=j-1) e1 (by rw[List.length_set];omega);have l1:=tL (m:=u) (j:=jj) (k:=(j:Nat)) (p:=j) rfl oM;have l2:=tL (m:=u.set j (tA u (j-1))) (j:=jj) (k:=(j:Nat)-1) (p:=j-1) e1 (by rw[List.length_set];omega);refine U2 ?_;refine Tc.dr [] [] mixed rfl ?_;refine I9 0 ?_;refine .z 13 rfl (pA.tk fun H hs=> iW M H (tA u j) (tA u (j-1)) true (decide_eq_true c3)) ?_;refine .nn 14 ?_;refine .dn ?_;refine U4 ?_;refine Tc.dr [15,17] [0] mixed rfl ?_;refine V2 0 ?_;refine .nw 2 ?_;refine .nw 3 ?_;refine .nw 4 ?_;refine V5 5 ?_;refine .nw 10 ?_;refine .nw 11 ?_;refine .nw 12 ?_;refine V2 13 ?_;refine .e 15 0 ?_;refine .nw 16 ?_;refine .e 17 0 ?_;refine .dn ?_;refine U6 ?_;rw[e1];exact Tc.db (ih2 ⟨(j-1,gB u j (j-1)),by simp only;omega,by simp only;omega,f3.trans (lA.swap oM oM oM oM),VN oM f2 f4 c2 c3⟩ (by simp only;omega))
   ·refine U2 ?_;refine Tc.dr [] [] mixed rfl ?_;refine I9 0 ?_;refine .z 13 rfl (pA.tk fun H hs=> iW M H (tA u j) (tA u (j-1)) false (decide_eq_false c3)) ?_;refine .nn 14 ?_;refine .dn ?_;refine U8 ?_;exact Tc.db (ih ⟨(i+1,u),by simp only;omega,by simp only;omega,f3,jR f4 c2 c3⟩ (by simp only;omega))
  ·refine U2 ?_;refine Tc.dr [] [] mixed rfl ?_;refine V4 0 ?_;refine .nw 4 ?_;refine .nw 5 ?_;refine .nw 6 ?_;refine .nw 7 ?_;refine .nw 8 ?_;refine .nw 9 ?_;refine .nw 10 ?_;refine .nw 11 ?_;refine .nw 12 ?_;refine .nw 13 ?_;refine .nn 14 ?_;refine .dn ?_;refine U8 ?_;exact Tc.db (ih ⟨(i+1,u),by simp only;omega,by simp only;omega,f3,fun p q h1 h2 h3=> f4 p q h1 h2 oM oM⟩ (by simp only;omega))
 ·refine U9 ?_;refine .ov hK func272 results272 [] ?_;exact fun H' hs=> UC.of hs (i:=0) rfl ⟨rfl,g3,fun p q h1 h2 h3=> g4 p q h1 h2 oM⟩
end
end Go.Proofs.YtldmfjcgjdchcaaGreatDoor
namespace Go.RL
open Go.Conc
section
variable {P:Program}{E:Env P}{M:Md P}{n:Nat}{H₀:View}{R:Rg}{L:Bl}{o:Oper}{K:Rg->Bl->Prop}
theorem Or.clear(i:Nat){cl:Go.Call}{x:Operand}{t e e':TypeId}{q cap blk off:Nat}{z:Value}{c c':List Value}{r re:AA}(kA:o.op=.call cl)(iB:cl.callee=.builtin .clear)(NF:cl.argTypes=#[t])(VG:cl.args=#[x])
  (hx:HA R x=some (.slice (some ⟨blk,off,none⟩) q cap)) (ht:E.ty t=some r) (JB:r.ds=.slice e) (eD:E.ty e=some re) (hz:re.zero.cells.toList= [z]) (hz1:single z=true)
  (hi:L[i]? =some (blk,true,.cells ⟨c⟩ e' (0,0))) (hq:q≠0) (hl:off+q<=c.length) (hd:o.dst=none) (hc:uG c off (List.replicate q z)=c')
  (hk:K R (L.set i (blk,true,.cells ⟨c'⟩ e' (0,0)))):Or M n H₀ R L o K:=fun H tmps LB hr=> by
 unfold vE;unfold execOp;rw[kA];simp only[resolve,iB,NF,VG];have UX:Array.map (CB tmps) #[x]=#[.slice (some ⟨blk,off,none⟩) q cap]:=by simp[hr.ev hx]
 rw[UX];obtain⟨q',rfl⟩:∃q',q=q'+1:=⟨q-1,oM⟩
 refine aA (Builtin.clear_ #[t] o.type #[.slice (some ⟨blk,off,none⟩) (q'+1) cap]) _ ?_;show EA P ((underlying t).bind fun _=> _) H _;refine aA (underlying t) _ (fA (wC ((E.ok _ _ ht).ds.trans JB)) ?_);show EA P ((zeroValue e).bind fun z=> (storeCells ⟨blk,off,none⟩ (Builtin.zeroCells z.cells (q'+1)).toList).bind fun _=> Sem.pure (Value.tuple #[])) H _;refine aA (zeroValue e) _ (NB (E.ok _ _ eD).zero ?_);have hzc:(Builtin.zeroCells re.zero.cells (q'+1)).toList=List.replicate (q'+1) z:=by
  have LD:re.zero.cells.size=1:=by
   have:=congrArg List.length hz;simpa using this
  rw[lH,hz,vI,LD,Nat.mul_one]
 rw[hzc];refine aA (storeCells _ _) _ ?_;refine DC blk _ (List.replicate (q'+1) z) 0 c (LB.get hi) (by simp only[List.length_replicate,Nat.add_zero];omega) (by rw[List.all_eq_true];intro y hy;rw[List.eq_of_mem_replicate hy];exact hz1) fun H' RP=> ?_;rw[if_neg (by simp)] at RP;rw[RP];refine⟨R,_,?_,LB.set hi _,?_⟩
 ·rw[hd];exact hr
 ·rw[show uG c (off+0) (List.replicate (q'+1) z)=c' from hc];exact hk
end
end Go.RL
namespace Go.Proofs.YtldmfjcgjdchcaaGreatDoor
open Go.RL Go.Proofs.Tryz
set_option maxRecDepth 10000
set_option maxHeartbeats 8000000
def aB(l:List Int):Nat->List Int
 | 0=> []
 | k+1=> if 1<=k/\tA l k=tA l (k-1) then aB l k else aB l k++[tA l k]
theorem NQ(l:List Int):∀k,(aB l k).length<=k
 | 0=> Nat.le_refl _
 | k+1=> by
  have:=NQ l k;unfold aB;split
  ·omega
  ·rw[List.length_append,List.length_cons,List.length_nil];omega
theorem ZK {l:List Int}{k:Nat}(h:k<l.length):l.take (k+1)=l.take k++[tA l k]:=by
 unfold tA;rw[List.take_succ_eq_append_getElem h,List.getElem?_eq_getElem h];rfl
theorem yM {u:List Int}{w:Nat}{x:Int}(h:w<u.length):(u.set w x).take (w+1)=u.take w++[x]:=by
 rw[List.take_succ_eq_append_getElem (by rw[List.length_set];exact h),List.take_set_of_le (Nat.le_refl _),List.getElem_set_self]
theorem qW {u:List Int}{w p:Nat}{x:Int}(h:w≠p):tA (u.set w x) p=tA u p:=by
 unfold tA;rw[List.getElem?_set_ne h]
theorem JG:∀s:List UInt8,Op.bytesLess s s=false
 | []=> rfl
 | a::t=> by
  show(decide (a<a)||(a==a&&Op.bytesLess t t))=false;rw[JG t];have:¬a<a:=UInt8.lt_irrefl a;simp[this]
theorem HM.inj {dec:Int->List UInt8}{l:List Int}(h:HM dec l){x y:Int}(hx:x∈l)(hy:y∈l)(e:dec x=dec y):x=y:=by
 have h1:=h x hx y hy;have h2:=h y hy x hx;rw[e,JG] at h1;rw[e,JG] at h2;have h3:=of_decide_eq_false h1.symm;have h4:=of_decide_eq_false h2.symm;omega
theorem BI {dec:Int->List UInt8}{m:List Int}{j:List Value}{k:Int}{o p:Nat}(hk:o+k.toNat*1=p)(hp:p<m.length):tE false 1 ((nA dec m)++j) (o+k.toNat*1)=some (gA (dec (tA m p))):=by
 rw[hk];have:=qA (dec:=dec) (m:=m) (j:=j) (k:=(p:Nat)) (p:=p) rfl hp;rw[Int.toNat_natCast,Nat.zero_add,Nat.mul_one] at this;exact this
def NY(dec:Int->List UInt8)(H:View)(sb:Nat)(l:List Int)(jj:List Value)(n cap:Nat)(v:Value)(H':View):Prop:=
 (∀b x,b≠sb->H b=some x->H' b=some x)/\∃rest,v=.slice (some ⟨sb,0,none⟩) (aB l n).length cap/\(aB l n).length+rest.length=n+jj.length/\H' sb=some (true,.cells ⟨(nA dec (aB l n))++rest⟩ 9 (0,0))
section
variable(M:Md prog)(H:View)
theorem pU(dec:Int->List UInt8)(sb:Nat)(l:List Int)(jj:List Value)(n cap:Nat)(hn:n=l.length)(hE:HM dec l)(RE:n<=100000000)(aC:n<=cap)(hS:H sb=some (true,.cells ⟨(nA dec l)++jj⟩ 9 (0,0))):
  bA M 121 #[.slice (some ⟨sb,0,none⟩) n cap] H (NY dec H sb l jj n cap):=by
 by_cases c0:n<2
 ·have e:aB l n=l:=by
   rcases(by omega:n=0\/n=1) with h|h
   ·have:l= []:=List.eq_nil_of_length_eq_zero oM;rw[h,this];rfl
   ·rw[h]
    match l,hn.symm.trans h with
    | [x],_=> rfl
  refine bA.enter (vs:= [.slice (some ⟨sb,0,none⟩) n cap]) func121 rfl ntmps121 (Nat.le_of_ble_eq_true rfl) (iA.pull hS) fun St c cs hK=> ?_;refine TJ ?_;refine .rt hK func121 results121 [_] ?_;refine fun H' hs=> ⟨fun b x hb hx=> hs.base b x (by rw[UA hb];exact hx),jj,?_,?_,?_⟩
  ·rw[e,<-hn];rfl
  ·rw[e,<-hn]
  ·rw[e];exact hs.get (i:=0) rfl
 ·refine bA.enter (vs:= [.slice (some ⟨sb,0,none⟩) n cap]) func121 rfl ntmps121 (Nat.le_of_ble_eq_true rfl) (iA.pull hS) fun St c cs hK=> ?_;refine hU ?_;refine Tc.db (Tc.sA (σ:= { i:Nat//1<=i/\i<=n/\aB l i=l.take i }) (fun i=> ([(0,.slice (some ⟨sb,0,none⟩) n cap),(3,.int .i64 (i.1:Nat))],[(sb,true,.cells ⟨(nA dec l)++jj⟩ 9 (0,0))])) (fun i=> n-i.1) ?_ ⟨1,Nat.le_refl _,oM,?_⟩)
  ·rintro ⟨i,g1,g2,g3⟩ ih;show Tc M St _ _ _ _ [(0,.slice (some ⟨sb,0,none⟩) n cap),(3,.int .i64 (i:Nat))] [(sb,true,.cells ⟨(nA dec l)++jj⟩ 9 (0,0))] _ _;by_cases c1:i=n
   ·have e:aB l n=l:=by rw[<-c1,g3,c1,hn,List.take_length]
    subst c1;refine XM ?_;refine .rt hK func121 results121 [_] ?_;refine fun H' hs=> ⟨fun b x hb hx=> hs.base b x (by rw[UA hb];exact hx),jj,?_,?_,?_⟩
    ·rw[e,<-hn];rfl
    ·rw[e,<-hn]
    ·rw[e];exact hs.get (i:=0) rfl
   ·have c2 :i<n:=by omega
    have e1:((i:Nat):Int)-1=((i-1:Nat):Int):=by omega
    have k1:=BI (dec:=dec) (m:=l) (j:=jj) (o:=0) (k:=(i:Nat)) (p:=i) oM oM;have k2:=BI (dec:=dec) (m:=l) (j:=jj) (o:=0) (k:=(i:Nat)-1) (p:=i-1) oM oM;by_cases c3:tA l i=tA l (i-1)
    ·have c4:RL.HC .eql (dec (tA l i)) (dec (tA l (i-1)))=some (.bool true):=by rw[c3];simp[RL.HC]
     have S6:aB l (i+1)=l.take i:=by rw[aB,if_pos ⟨g1,c3⟩,g3]
     have xB:(l.take i).length=i:=by rw[List.length_take];omega
     refine LG ?_;refine Tc.dr [] [] mixed rfl ?_;refine uX 0 ?_;refine .dn ?_;refine U5 ?_;refine .x (pA.slice (E:=en) (off':=0+((i:Nat):Int).toNat*1) rfl rfl rfl rfl rfl rfl rfl rfl oM oM oM (by rw[if_neg oM] <;> rfl)) ?_;refine U8 ?_;refine Tc.db (Tc.sA (σ:= { s:Nat×Nat×List Int//1<=s.2.1/\s.2.1<=n-i/\s.2.2.length=n/\s.1+1<=i+s.2.1/\s.1=(aB l (i+s.2.1)).length/\s.2.2.take s.1=aB l (i+s.2.1)/\∀p,i+s.2.1<=p+1->tA s.2.2 p=tA l p })
      (fun s=> ([(0,.slice (some ⟨sb,0,none⟩) n cap),(3,.int .i64 (s.1.1:Nat)),(4,.slice (some ⟨sb,0+((i:Nat):Int).toNat*1,none⟩) (((n:Nat):Int).toNat-((i:Nat):Int).toNat) (cap-((i:Nat):Int).toNat)),(5,.int .i64 (s.1.2.1:Nat))],[(sb,true,.cells ⟨(nA dec s.1.2.2)++jj⟩ 9 (0,0))])) (fun s=> n-s.1.2.1) ?_
      ⟨(i,1,l),by simp only;omega,by simp only;omega,hn.symm,by simp only;omega,by simp only;rw[S6,xB],by simp only;rw[S6],fun p _=> rfl⟩)
     rintro⟨⟨v2,k,u⟩,h1,h2,h3,h4,h5,h6,h7⟩ ih2;simp only at h1 h2 h3 h4 h5 h6 h7;show Tc M St _ _ _ _ [(0,.slice (some ⟨sb,0,none⟩) n cap),(3,.int .i64 (v2:Nat)),(4,.slice (some ⟨sb,0+((i:Nat):Int).toNat*1,none⟩) (((n:Nat):Int).toNat-((i:Nat):Int).toNat) (cap-((i:Nat):Int).toNat)),(5,.int .i64 (k:Nat))] [(sb,true,.cells ⟨(nA dec u)++jj⟩ 9 (0,0))] _ _;have eP:((n:Nat):Int).toNat-((i:Nat):Int).toNat=n-i:=by omega
     rw[eP];by_cases d1:k=n-i
     ·have e5:i+k=n:=by omega
      rw[e5] at h5 h6 h4;have nM:u.length=n:=h3;have Q8:((n:Nat):Int).toNat-((v2:Nat):Int).toNat=n-v2:=by omega
      refine vF ?_;refine .x (pA.slice (E:=en) (off':=0+((v2:Nat):Int).toNat*1) rfl rfl rfl rfl rfl rfl rfl rfl oM oM oM (by rw[if_neg oM] <;> rfl)) ?_;refine .e (Or.clear (E:=en) (c':=(nA dec (aB l n))++(List.replicate (n-v2) (gA [])++jj)) 0 rfl rfl rfl rfl rfl rfl rfl rfl rfl rfl rfl oM ?_ rfl ?_ ?_)
      ·rw[List.length_append,GB];omega
      ·show uG ((nA dec u)++jj) (0+((v2:Nat):Int).toNat*1) (List.replicate (((n:Nat):Int).toNat-((v2:Nat):Int).toNat) (gA []))=_;rw[Q8,Nat.zero_add,Int.toNat_natCast,Nat.mul_one];have e6:u=aB l n++u.drop v2:=by rw[<-h6,List.take_append_drop]
       have e7:(nA dec u)=(nA dec (aB l n))++(nA dec (u.drop v2)):=by
        have h:=congrArg (fun x=> (nA dec x)) e6;refine h.trans ?_;show(nA dec (aB l n++u.drop v2))=_;unfold nA;rw[List.map_append]
       have e8:(nA dec (aB l n)).length=v2:=by rw[GB,<-h5]
       have e9:(nA dec (u.drop v2)).length=n-v2:=by rw[GB,List.length_drop,nM]
       rw[e7,List.append_assoc];unfold uG;rw[List.take_left' e8,List.length_replicate,<-List.drop_drop,List.drop_left' e8,List.drop_left' e9];simp only[List.append_assoc]
      ·refine U5 ?_;refine .x (pA.sliceTo (E:=en) (k:=v2) rfl rfl rfl rfl rfl rfl oM oM) ?_;refine U2 ?_;refine .rt hK func121 results121 [_] ?_;refine fun H' hs=> ⟨fun b x hb hx=> hs.base b x (by rw[UA hb];exact hx),List.replicate (n-v2) (gA [])++jj,?_,?_,?_⟩
       ·rw[<-h5];rfl
       ·rw[List.length_append,List.length_replicate];omega
       ·exact hs.get (i:=0) rfl
     ·have d2:i+k<n:=by omega
      have e2:((k:Nat):Int)-1=((k-1:Nat):Int):=by omega
      have k3:=BI (dec:=dec) (m:=u) (j:=jj) (o:=0+((i:Nat):Int).toNat*1) (k:=(k:Nat)) (p:=i+k) oM oM;have k4:=BI (dec:=dec) (m:=u) (j:=jj) (o:=0+((i:Nat):Int).toNat*1) (k:=(k:Nat)-1) (p:=i+k-1) oM oM;have a1:=h7 (i+k) oM;have a2:=h7 (i+k-1) oM;by_cases d3:tA l (i+k)=tA l (i+k-1)
      ·have c5:RL.HC .neq (dec (tA u (i+k))) (dec (tA u (i+k-1)))=some (.bool false):=by rw[a1,a2,d3];simp[RL.HC]
       have A0:aB l (i+(k+1))=aB l (i+k):=by show aB l (i+k+1)=_;rw[aB,if_pos ⟨oM,d3⟩]
       refine LG ?_;refine Tc.dr [] [] mixed rfl ?_;refine uX 0 ?_;refine .dn ?_;refine U8 ?_;exact Tc.db (ih2 ⟨(v2,k+1,u),by simp only;omega,by simp only;omega,h3,by simp only;omega,by simp only;rw[A0];exact h5,by simp only;rw[A0];exact h6,fun p hp=> h7 p (by simp only at hp;omega)⟩ (by simp only;omega))
      ·have c5:RL.HC .neq (dec (tA u (i+k))) (dec (tA u (i+k-1)))=some (.bool true):=by rw[a1,a2];have:¬dec (tA l (i+k))=dec (tA l (i+k-1)):=fun h=> d3 (hE.inj (rA oM) (rA oM) h);simp[RL.HC,this]
       have A0:aB l (i+(k+1))=aB l (i+k)++[tA l (i+k)]:=by show aB l (i+k+1)=_;rw[aB,if_neg (fun h=> d3 h.2)]
       have s1:=yA (dec:=dec) (m:=u) (j:=jj) (k:=(v2:Nat)) (x:=tA u (i+k)) (p:=v2) rfl oM;have l1:=xA (dec:=dec) (m:=u) (j:=jj) (k:=(v2:Nat)) (p:=v2) rfl oM;refine LG ?_;refine Tc.dr [] [] mixed rfl ?_;refine uX 0 ?_;refine .dn ?_;refine F9 ?_;exact Tc.db (ih2 ⟨(v2+1,k+1,u.set v2 (tA u (i+k))),by simp only;omega,by simp only;omega,by simp only;rw[List.length_set];exact h3,by simp only;omega,by simp only;rw[A0,List.length_append,<-h5];rfl,by simp only;rw[A0,yM oM,h6,a1],fun p hp=> by simp only at hp ⊢;rw[qW oM];exact h7 p oM⟩ (by simp only;omega))
    ·have c4:RL.HC .eql (dec (tA l i)) (dec (tA l (i-1)))=some (.bool false):=by have:¬dec (tA l i)=dec (tA l (i-1)):=fun h=> c3 (hE.inj (rA oM) (rA oM) h);simp[RL.HC,this]
     refine LG ?_;refine Tc.dr [] [] mixed rfl ?_;refine uX 0 ?_;refine .dn ?_;refine U8 ?_;exact Tc.db (ih ⟨i+1,oM,oM,by rw[aB,if_neg (fun h=> c3 h.2),g3,ZK oM]⟩ (by simp only;omega))
  ·rw[ZK (l:=l) (k:=0) oM];rfl
end
theorem zI {m:List Int}{j:List Value}{k:Int}{o p:Nat}(hk:o+k.toNat*1=p)(hp:p<m.length):tE false 1 ((IA m)++j) (o+k.toNat*1)=some (.int .i64 (tA m p)):=by
 rw[hk];have:=rL (m:=m) (j:=j) (k:=(p:Nat)) (p:=p) rfl hp;rw[Int.toNat_natCast,Nat.zero_add,Nat.mul_one] at this;exact this
def MY(H:View)(sb:Nat)(l:List Int)(jj:List Value)(n cap:Nat)(v:Value)(H':View):Prop:=
 (∀b x,b≠sb->H b=some x->H' b=some x)/\∃rest,v=.slice (some ⟨sb,0,none⟩) (aB l n).length cap/\(aB l n).length+rest.length=n+jj.length/\H' sb=some (true,.cells ⟨(IA (aB l n))++rest⟩ 3 (0,0))
section
variable(M:Md prog)(H:View)
theorem oU(sb:Nat)(l:List Int)(jj:List Value)(n cap:Nat)(hn:n=l.length)(RE:n<=1000000)(aC:n<=cap)(hS:H sb=some (true,.cells ⟨(IA l)++jj⟩ 3 (0,0))):
  bA M 136 #[.slice (some ⟨sb,0,none⟩) n cap] H (MY H sb l jj n cap):=by
 by_cases c0:n<2
 ·have e:aB l n=l:=by
   rcases(by omega:n=0\/n=1) with h|h
   ·have:l= []:=List.eq_nil_of_length_eq_zero oM;rw[h,this];rfl
   ·rw[h]
    match l,hn.symm.trans h with
    | [x],_=> rfl
  refine bA.enter (vs:= [.slice (some ⟨sb,0,none⟩) n cap]) func136 rfl ntmps136 (Nat.le_of_ble_eq_true rfl) (iA.pull hS) fun St c cs hK=> ?_;refine TJ ?_;refine .rt hK func136 results136 [_] ?_;refine fun H' hs=> ⟨fun b x hb hx=> hs.base b x (by rw[UA hb];exact hx),jj,?_,?_,?_⟩
  ·rw[e,<-hn];rfl
  ·rw[e,<-hn]
  ·rw[e];exact hs.get (i:=0) rfl
 ·refine bA.enter (vs:= [.slice (some ⟨sb,0,none⟩) n cap]) func136 rfl ntmps136 (Nat.le_of_ble_eq_true rfl) (iA.pull hS) fun St c cs hK=> ?_;refine hU ?_;refine Tc.db (Tc.sA (σ:= { i:Nat//1<=i/\i<=n/\aB l i=l.take i }) (fun i=> ([(0,.slice (some ⟨sb,0,none⟩) n cap),(3,.int .i64 (i.1:Nat))],[(sb,true,.cells ⟨(IA l)++jj⟩ 3 (0,0))])) (fun i=> n-i.1) ?_ ⟨1,Nat.le_refl _,oM,?_⟩)
  ·rintro ⟨i,g1,g2,g3⟩ ih;show Tc M St _ _ _ _ [(0,.slice (some ⟨sb,0,none⟩) n cap),(3,.int .i64 (i:Nat))] [(sb,true,.cells ⟨(IA l)++jj⟩ 3 (0,0))] _ _;by_cases c1:i=n
   ·have e:aB l n=l:=by rw[<-c1,g3,c1,hn,List.take_length]
    subst c1;refine XM ?_;refine .rt hK func136 results136 [_] ?_;refine fun H' hs=> ⟨fun b x hb hx=> hs.base b x (by rw[UA hb];exact hx),jj,?_,?_,?_⟩
    ·rw[e,<-hn];rfl
    ·rw[e,<-hn]
    ·rw[e];exact hs.get (i:=0) rfl
   ·have c2 :i<n:=by omega
    have e1:((i:Nat):Int)-1=((i-1:Nat):Int):=by omega
    have k1:=zI (m:=l) (j:=jj) (o:=0) (k:=(i:Nat)) (p:=i) oM oM;have k2:=zI (m:=l) (j:=jj) (o:=0) (k:=(i:Nat)-1) (p:=i-1) oM oM;by_cases c3:tA l i=tA l (i-1)
    ·skip
     have S6:aB l (i+1)=l.take i:=by rw[aB,if_pos ⟨g1,c3⟩,g3]
     have xB:(l.take i).length=i:=by rw[List.length_take];omega
     refine LG ?_;refine Tc.dr [] [] mixed rfl ?_;refine uX 0 ?_;refine .dn ?_;refine U5 ?_;refine .x (pA.slice (E:=en) (off':=0+((i:Nat):Int).toNat*1) rfl rfl rfl rfl rfl rfl rfl rfl oM oM oM (by rw[if_neg oM] <;> rfl)) ?_;refine U8 ?_;refine Tc.db (Tc.sA (σ:= { s:Nat×Nat×List Int//1<=s.2.1/\s.2.1<=n-i/\s.2.2.length=n/\s.1+1<=i+s.2.1/\s.1=(aB l (i+s.2.1)).length/\s.2.2.take s.1=aB l (i+s.2.1)/\∀p,i+s.2.1<=p+1->tA s.2.2 p=tA l p })
      (fun s=> ([(0,.slice (some ⟨sb,0,none⟩) n cap),(3,.int .i64 (s.1.1:Nat)),(4,.slice (some ⟨sb,0+((i:Nat):Int).toNat*1,none⟩) (((n:Nat):Int).toNat-((i:Nat):Int).toNat) (cap-((i:Nat):Int).toNat)),(5,.int .i64 (s.1.2.1:Nat))],[(sb,true,.cells ⟨(IA s.1.2.2)++jj⟩ 3 (0,0))])) (fun s=> n-s.1.2.1) ?_
      ⟨(i,1,l),by simp only;omega,by simp only;omega,hn.symm,by simp only;omega,by simp only;rw[S6,xB],by simp only;rw[S6],fun p _=> rfl⟩)
     rintro⟨⟨v2,k,u⟩,h1,h2,h3,h4,h5,h6,h7⟩ ih2;simp only at h1 h2 h3 h4 h5 h6 h7;show Tc M St _ _ _ _ [(0,.slice (some ⟨sb,0,none⟩) n cap),(3,.int .i64 (v2:Nat)),(4,.slice (some ⟨sb,0+((i:Nat):Int).toNat*1,none⟩) (((n:Nat):Int).toNat-((i:Nat):Int).toNat) (cap-((i:Nat):Int).toNat)),(5,.int .i64 (k:Nat))] [(sb,true,.cells ⟨(IA u)++jj⟩ 3 (0,0))] _ _;have eP:((n:Nat):Int).toNat-((i:Nat):Int).toNat=n-i:=by omega
     rw[eP];by_cases d1:k=n-i
     ·have e5:i+k=n:=by omega
      rw[e5] at h5 h6 h4;have nM:u.length=n:=h3;have Q8:((n:Nat):Int).toNat-((v2:Nat):Int).toNat=n-v2:=by omega
      refine vF ?_;refine .x (pA.slice (E:=en) (off':=0+((v2:Nat):Int).toNat*1) rfl rfl rfl rfl rfl rfl rfl rfl oM oM oM (by rw[if_neg oM] <;> rfl)) ?_;refine .e (Or.clear (E:=en) (c':=(IA (aB l n))++(List.replicate (n-v2) (.int .i64 0)++jj)) 0 rfl rfl rfl rfl rfl rfl rfl rfl rfl rfl rfl oM ?_ rfl ?_ ?_)
      ·rw[List.length_append,RB];omega
      ·show uG ((IA u)++jj) (0+((v2:Nat):Int).toNat*1) (List.replicate (((n:Nat):Int).toNat-((v2:Nat):Int).toNat) (.int .i64 0))=_;rw[Q8,Nat.zero_add,Int.toNat_natCast,Nat.mul_one];have e6:u=aB l n++u.drop v2:=by rw[<-h6,List.take_append_drop]
       have e7:(IA u)=(IA (aB l n))++(IA (u.drop v2)):=by
        have h:=congrArg (fun x=> (IA x)) e6;refine h.trans ?_;show(IA (aB l n++u.drop v2))=_;unfold IA;rw[List.map_append]
       have e8:(IA (aB l n)).length=v2:=by rw[RB,<-h5]
       have e9:(IA (u.drop v2)).length=n-v2:=by rw[RB,List.length_drop,nM]
       rw[e7,List.append_assoc];unfold uG;rw[List.take_left' e8,List.length_replicate,<-List.drop_drop,List.drop_left' e8,List.drop_left' e9];simp only[List.append_assoc]
      ·refine U5 ?_;refine .x (pA.sliceTo (E:=en) (k:=v2) rfl rfl rfl rfl rfl rfl oM oM) ?_;refine U2 ?_;refine .rt hK func136 results136 [_] ?_;refine fun H' hs=> ⟨fun b x hb hx=> hs.base b x (by rw[UA hb];exact hx),List.replicate (n-v2) (.int .i64 0)++jj,?_,?_,?_⟩
       ·rw[<-h5];rfl
       ·rw[List.length_append,List.length_replicate];omega
       ·exact hs.get (i:=0) rfl
     ·have d2:i+k<n:=by omega
      have e2:((k:Nat):Int)-1=((k-1:Nat):Int):=by omega
      have k3:=zI (m:=u) (j:=jj) (o:=0+((i:Nat):Int).toNat*1) (k:=(k:Nat)) (p:=i+k) oM oM;have k4:=zI (m:=u) (j:=jj) (o:=0+((i:Nat):Int).toNat*1) (k:=(k:Nat)-1) (p:=i+k-1) oM oM;have a1:=h7 (i+k) oM;have a2:=h7 (i+k-1) oM;by_cases d3:tA l (i+k)=tA l (i+k-1)
      ·have a3:tA u (i+k)=tA u (i+k-1):=by rw[a1,a2,d3]
       have A0:aB l (i+(k+1))=aB l (i+k):=by show aB l (i+k+1)=_;rw[aB,if_pos ⟨oM,d3⟩]
       refine LG ?_;refine Tc.dr [] [] mixed rfl ?_;refine uX 0 ?_;refine .dn ?_;refine U8 ?_;exact Tc.db (ih2 ⟨(v2,k+1,u),by simp only;omega,by simp only;omega,h3,by simp only;omega,by simp only;rw[A0];exact h5,by simp only;rw[A0];exact h6,fun p hp=> h7 p (by simp only at hp;omega)⟩ (by simp only;omega))
      ·have a3:¬tA u (i+k)=tA u (i+k-1):=by rw[a1,a2];exact d3
       have A0:aB l (i+(k+1))=aB l (i+k)++[tA l (i+k)]:=by show aB l (i+k+1)=_;rw[aB,if_neg (fun h=> d3 h.2)]
       have s1:=uL (m:=u) (j:=jj) (k:=(v2:Nat)) (x:=tA u (i+k)) (p:=v2) rfl oM;have l1:=tL (m:=u) (j:=jj) (k:=(v2:Nat)) (p:=v2) rfl oM;refine LG ?_;refine Tc.dr [] [] mixed rfl ?_;refine uX 0 ?_;refine .dn ?_;refine F9 ?_;exact Tc.db (ih2 ⟨(v2+1,k+1,u.set v2 (tA u (i+k))),by simp only;omega,by simp only;omega,by simp only;rw[List.length_set];exact h3,by simp only;omega,by simp only;rw[A0,List.length_append,<-h5];rfl,by simp only;rw[A0,yM oM,h6,a1],fun p hp=> by simp only at hp ⊢;rw[qW oM];exact h7 p oM⟩ (by simp only;omega))
    ·skip
     refine LG ?_;refine Tc.dr [] [] mixed rfl ?_;refine uX 0 ?_;refine .dn ?_;refine U8 ?_;exact Tc.db (ih ⟨i+1,oM,oM,by rw[aB,if_neg (fun h=> c3 h.2),g3,ZK oM]⟩ (by simp only;omega))
  ·rw[ZK (l:=l) (k:=0) oM];rfl
end
def bl(x:Nat):Nat:=if x=0 then 0 else Nat.log2 x+1
theorem aCf:∀x:Nat,x<64->(UInt8.ofNat (bl x)).toNat=bl x/\bl x<=6/\x<2 ^ bl x/\2 ^ bl x<=2*x+1:=by decide +kernel
theorem j8:∀x:Nat,x<64->IntKind.u8.wrap (x:Int)=(x:Int):=by decide +kernel
section
variable(M:Md prog)(H:View)
theorem L5(x:Nat)(hx:x<64):bA M 266 #[.int .u64 (x:Nat)] H (fun v H'=> H.le H'/\v=.int .i64 (bl x:Nat)):=by
 obtain⟨b1,b2,_,_⟩:=aCf x hx;have hw:=j8 x hx;have hw2:IntKind.i64.wrap (((UInt8.ofNat (bl x)).toNat:Nat):Int)=((bl x:Nat):Int):=by rw[b1];exact wrap64 oM oM
 have aAj:mA .add .i64 0 ((bl x:Nat):Int)=some (.int .i64 ((bl x:Nat):Int)):=by rw[lB oM oM,Int.zero_add]
 refine .en func266 ntmps266 fun St c cs hK=> ?_;refine U33 ?_;refine .x (pA.UN (c:=UInt8.ofNat (bl x)) rfl rfl rfl (YE ((en.ok _ _ (show en.ty 9=some _ from rfl)).ds.trans rfl)) oM (by
  rw[Int.toNat_natCast];exact(fun(s:ByteArray) (h:∀y:Nat,y<64->s[y]? =some (UInt8.ofNat (bl y)))=> h x hx) _ (by decide +kernel))) ?_
 refine .x (pA.xW (E:=en) rfl rfl rfl rfl rfl rfl hw2) ?_;refine .i ?_ (z:=aAj);refine U2 ?_;refine .rt hK func266 results266 [_] ?_;exact okB
theorem gW(x:Nat)(hx:x<64):bA M 197 #[.int .u64 (x:Nat)] H (fun v H'=> H.le H'/\v=.int .i64 (bl x:Nat)):=by
 refine .en func197 ntmps197 fun St c cs hK=> ?_;refine DD ?_;refine .cl (fun H hs=> L5 M H x hx) ?_;refine U2 ?_;refine .rt hK func197 results197 [_] ?_;exact okB
end
theorem LR:∀x:Nat,x<64->IntKind.u64.wrap (x:Int)=(x:Int):=by decide +kernel
section
variable(M:Md prog)(H:View)
theorem aAN(dec:Int->List UInt8)(sb:Nat)(l:List Int)(jj:List Value)(n cap:Nat)(lim:Int)(hn:n=l.length)(hE:HM dec l)(TO:n<=12)(hS:H sb=some (true,.cells ⟨(nA dec l)++jj⟩ 9 (0,0))):
  bA M 196 #[.slice (some ⟨sb,0,none⟩) n cap,.int .i64 0,.int .i64 (n:Nat),.int .i64 lim] H (YA dec H sb jj (fun v m=> v=.tuple ⟨[]⟩/\lA 0 n l m/\pE 0 n m)):=by
 refine bA.enter (vs:= [.slice (some ⟨sb,0,none⟩) n cap,.int .i64 0,.int .i64 (n:Nat),.int .i64 lim]) func196 rfl ntmps196 (Nat.le_of_ble_eq_true rfl) (iA.pull hS) fun St c cs hK=> ?_;refine U7 ?_;refine .done (.block (.loop (.block (.sr ?_))));refine TJ ?_;refine .e (Or.lE (dec:=dec) (l:=l) 0 (fun v m=> v=.tuple ⟨[]⟩/\lA 0 n l m/\pE 0 n m) rfl rfl rfl rfl rfl dE rfl (fun H hs=> .h (DK M H dec sb l jj n cap 0 n hn hE oM oM oM (hs.get (i:=0) rfl))) (fun v m hm=> ?_));refine U ?_;obtain⟨rfl,ht,AH⟩:=hm;refine .rt hK func196 results196 [] ?_;exact fun H' hs=> YA.of hs (i:=0) rfl ⟨rfl,ht,AH⟩
theorem T5(dec:Int->List UInt8)(sb:Nat)(l:List Int)(jj:List Value)(n cap:Nat)(hn:n=l.length)(hE:HM dec l)(TO:n<=12)(hS:H sb=some (true,.cells ⟨(nA dec l)++jj⟩ 9 (0,0))):
  bA M 120 #[.slice (some ⟨sb,0,none⟩) n cap] H (YA dec H sb jj (fun v m=> v=.tuple ⟨[]⟩/\lA 0 n l m/\pE 0 n m)):=by
 have hw:=LR n oM;refine bA.enter (vs:= [.slice (some ⟨sb,0,none⟩) n cap]) func120 rfl ntmps120 (Nat.le_of_ble_eq_true rfl) (iA.pull hS) fun St c cs hK=> ?_;refine qE ?_;refine .cl (fun H hs=> gW M H n oM) ?_;refine .e (Or.lE (dec:=dec) (l:=l) 0 (fun v m=> v=.tuple ⟨[]⟩/\lA 0 n l m/\pE 0 n m) rfl rfl rfl rfl rfl dE rfl (fun H hs=> .h (aAN M H dec sb l jj n cap (bl n:Nat) hn hE TO (hs.get (i:=0) rfl))) (fun v m hm=> ?_));refine U ?_;obtain⟨rfl,ht,AH⟩:=hm;refine .ov hK func120 results120 [] ?_;exact fun H' hs=> YA.of hs (i:=0) rfl ⟨rfl,ht,AH⟩
theorem XN(c0:Nat):bA M 256 #[.slice none 0 c0,.int .i64 0,.int .i64 ((0:Nat):Int)] H (fun v H'=> H.le H'/\v=.tuple ⟨[]⟩):=by
 refine .en func256 ntmps256 fun St c cs hK=> ?_;refine U5 ?_;refine .done (.block (.loop (.seq (.sr ?_))));refine U6 ?_;refine .ov hK func256 results256 [] ?_;exact okB
theorem R2(c0:Nat)(lim:Int):bA M 196 #[.slice none 0 c0,.int .i64 0,.int .i64 ((0:Nat):Int),.int .i64 lim] H (fun v H'=> H.le H'/\v=.tuple ⟨[]⟩):=by
 refine .en func196 ntmps196 fun St c cs hK=> ?_;refine U7 ?_;refine .done (.block (.loop (.block (.sr ?_))));refine TJ ?_;refine .cl (fun H hs=> XN M H c0) ?_;refine U ?_;refine .rt hK func196 results196 [] ?_;exact okB
theorem yP(c0:Nat):bA M 120 #[.slice none 0 c0] H (fun v H'=> H.le H'/\v=.tuple ⟨[]⟩):=by
 have hw:=LR 0 oM;refine .en func120 ntmps120 fun St c cs hK=> ?_;refine qE ?_;refine .cl (fun H hs=> gW M H 0 oM) ?_;refine .cl (fun H hs=> R2 M H c0 (bl 0:Nat)) ?_;refine U ?_;refine .ov hK func120 results120 [] ?_;exact okB
theorem uQ(c0:Nat):bA M 121 #[.slice none 0 c0] H (fun v H'=> H.le H'/\v=.slice none 0 c0):=by
 refine .en func121 ntmps121 fun St c cs hK=> ?_;refine TJ ?_;refine .rt hK func121 results121 [_] ?_;exact okB
end
def Gl.sQ(g:Gl 9 1)(m:List Value)(h:m.length=g.n):Gl 9 1:=⟨g.blk,g.n,g.cap,m,g.kB,by rw[h,Nat.mul_one],g.hc,g.hj,g.h0⟩
theorem Or.aDK {dec:Int->List UInt8}{M:Md prog}{n:Nat}{H₀:View}{R:Rg}{L1:Bl}{o:Oper}{K:Rg->Bl->Prop}{cl:Go.Call}{x:Operand}{fv:Value}{d:Nat}(g:Gl 9 1)(u:List Int)(hg:g.l=(nA dec u))(hE:HM dec u)(TO:g.n<=12)
  (kA:o.op=.call cl) (iB:cl.callee=.value x) (hx:HA R x=some fv) (has:VC R cl.args.toList=some [g.val]) (hd:o.dst=some d) (hn:d<n)
  (hc:∀(H:View) (Q:Value->View->Prop),bA M 120 #[g.val] H Q->yB M fv [g.val] H Q)
  (hK:∀(g':Gl 9 1) (m:List Int),g'.val=g.val->g'.n=g.n->g'.blk=g.blk->g'.l=(nA dec m)->lA 0 g.n u m->pE 0 g.n m->K ((d,.tuple ⟨[]⟩)::R) (L1++g'.bl)):Or M n H₀ R (L1++g.bl) o K:=by
 have nM:u.length=g.n:=by have:=g.hl;rw[hg,GB] at this;omega
 cases hb:g.blk with
 | none=>
  have aC:=g.h0 hb;have W6:=g.hc;have h0:g.n=0:=by omega
  have EJ:g.bl= []:=by unfold Gl.bl;rw[hb]
  have hv:g.val=.slice none 0 g.cap:=by unfold Gl.val;rw[hb,h0];rfl
  refine Or.PB (fun _:Unit=> .tuple ⟨[]⟩) (fun _=> []) (fun _=> True) kA iB hx has hd hn (fun _=> by simp) (fun H hs=> hc H _ ?_) (fun _ _=> ?_)
  ·rw[hv];exact bA.mono (yP M H g.cap) (fun v H' ⟨h1,h2⟩=> ⟨h1,(),h2,trivial,by simp⟩)
  ·rw[List.append_nil];exact hK g u rfl rfl rfl hg (lA.refl _ _ _) (fun p q h1 h2 h3=> by omega)
 | some b=>
  have EJ:g.bl= [(b,true,.cells ⟨(nA dec u)++g.kB⟩ 9 (0,0))]:=by unfold Gl.bl;rw[hb,hg]
  have hv:g.val=.slice (some ⟨b,0,none⟩) g.n g.cap:=by unfold Gl.val;rw[hb];rfl
  rw[EJ];refine Or.lE (dec:=dec) (l:=u) L1.length (fun v m=> v=.tuple ⟨[]⟩/\lA 0 g.n u m/\pE 0 g.n m) kA iB hx has hd hn (by rw[List.getElem?_append_right (Nat.le_refl _),Nat.sub_self];rfl)
   (fun H hs=> hc H _ ?_) (fun v m ⟨h1,h2,h3⟩=> ?_)
  ·rw[hv];exact T5 M H dec b u g.kB g.n g.cap nM.symm hE TO (hs.get (i:=L1.length) (by rw[List.getElem?_append_right (Nat.le_refl _),Nat.sub_self];rfl))
  ·subst h1;have QN:m.length=g.n:=by rw[h2.len];exact nM
   have:=hK (Gl.sQ g (nA dec m) (by rw[GB];exact QN)) m rfl rfl rfl rfl h2 h3;have j0:(Gl.sQ g (nA dec m) (by rw[GB];exact QN)).bl= [(b,true,.cells ⟨(nA dec m)++g.kB⟩ 9 (0,0))]:=by
    unfold Gl.bl Gl.sQ;simp only[hb]
   rw[j0] at this;rw[List.set_append_right _ _ (Nat.le_refl _),Nat.sub_self];exact this
theorem Or.E6 {dec:Int->List UInt8}{M:Md prog}{n:Nat}{H₀:View}{R:Rg}{L1:Bl}{o:Oper}{K:Rg->Bl->Prop}{cl:Go.Call}{x:Operand}{fv:Value}{d:Nat}(g:Gl 9 1)(u:List Int)(hg:g.l=(nA dec u))(hE:HM dec u)(TO:g.n<=100000000)
  (kA:o.op=.call cl) (iB:cl.callee=.value x) (hx:HA R x=some fv) (has:VC R cl.args.toList=some [g.val]) (hd:o.dst=some d) (hn:d<n)
  (hc:∀(H:View) (Q:Value->View->Prop),bA M 121 #[g.val] H Q->yB M fv [g.val] H Q)
  (hK:∀(g':Gl 9 1),g'.n=(aB u g.n).length->g'.l=(nA dec (aB u g.n))->K ((d,g'.val)::R) (L1++g'.bl)):Or M n H₀ R (L1++g.bl) o K:=by
 have nM:u.length=g.n:=by have:=g.hl;rw[hg,GB] at this;omega
 cases hb:g.blk with
 | none=>
  have aC:=g.h0 hb;have W6:=g.hc;have h0:g.n=0:=by omega
  have EJ:g.bl= []:=by unfold Gl.bl;rw[hb]
  have hv:g.val=.slice none 0 g.cap:=by unfold Gl.val;rw[hb,h0];rfl
  have o5:u= []:=List.eq_nil_of_length_eq_zero oM;refine Or.PB (fun _:Unit=> g.val) (fun _=> []) (fun _=> True) kA iB hx has hd hn (fun _=> by simp) (fun H hs=> hc H _ ?_) (fun _ _=> ?_)
  ·rw[hv];exact bA.mono (uQ M H g.cap) (fun v H' ⟨h1,h2⟩=> ⟨h1,(),h2,trivial,by simp⟩)
  ·rw[List.append_nil];refine hK g (by rw[h0];rfl) ?_;rw[hg,o5,h0];rfl
 | some b=>
  have EJ:g.bl= [(b,true,.cells ⟨(nA dec u)++g.kB⟩ 9 (0,0))]:=by unfold Gl.bl;rw[hb,hg]
  have hv:g.val=.slice (some ⟨b,0,none⟩) g.n g.cap:=by unfold Gl.val;rw[hb];rfl
  rw[EJ];have hi:(L1++[(b,true,Obj.cells ⟨(nA dec u)++g.kB⟩ 9 (0,0))])[L1.length]? =some (b,true,Obj.cells ⟨(nA dec u)++g.kB⟩ 9 (0,0)):=by rw[List.getElem?_append_right (Nat.le_refl _),Nat.sub_self];rfl
  refine .wN kA iB hx has (Q:=fun H v H'=> NY dec H b u g.kB g.n g.cap v H') (fun H hs=> hc H _ ?_) (fun H v H' hs hq=> ?_)
  ·rw[hv];exact pU M H dec b u g.kB g.n g.cap nM.symm hE TO g.hc (hs.get hi)
  ·obtain⟨h1,rest,h2,h3,h4⟩:=hq;subst h2;have hle:=NQ u g.n;have W6:=g.hc;have hgj:=g.hj;refine⟨L1++[(b,true,.cells ⟨(nA dec (aB u g.n))++rest⟩ 9 (0,0))],_,?_,by rw[hd];exact⟨hn,rfl⟩,?_⟩
   ·have:=uF hs hi h1 h4;rw[List.set_append_right _ _ (Nat.le_refl _),Nat.sub_self] at this;exact this
   ·have:=hK ⟨some b,(aB u g.n).length,g.cap,(nA dec (aB u g.n)),rest,by rw[GB,Nat.mul_one],oM,oM,fun h=> by cases h⟩ rfl rfl;exact this
section
variable(M:Md prog)(H:View)
theorem aAM(sb:Nat)(l:List Int)(jj:List Value)(n cap:Nat)(lim:Int)(hn:n=l.length)(TO:n<=12)(hS:H sb=some (true,.cells ⟨(IA l)++jj⟩ 3 (0,0))):
  bA M 222 #[.slice (some ⟨sb,0,none⟩) n cap,.int .i64 0,.int .i64 (n:Nat),.int .i64 lim] H (UC H sb jj (fun v m=> v=.tuple ⟨[]⟩/\lA 0 n l m/\pE 0 n m)):=by
 refine bA.enter (vs:= [.slice (some ⟨sb,0,none⟩) n cap,.int .i64 0,.int .i64 (n:Nat),.int .i64 lim]) func222 rfl ntmps222 (Nat.le_of_ble_eq_true rfl) (iA.pull hS) fun St c cs hK=> ?_;refine U7 ?_;refine .done (.block (.loop (.block (.sr ?_))));refine TJ ?_;refine .e (Or.FR (l:=l) 0 (fun v m=> v=.tuple ⟨[]⟩/\lA 0 n l m/\pE 0 n m) rfl rfl rfl rfl rfl dE rfl (fun H hs=> .h (lR M H sb l jj n cap 0 n hn oM oM oM (hs.get (i:=0) rfl))) (fun v m hm=> ?_));refine U ?_;obtain⟨rfl,ht,AH⟩:=hm;refine .rt hK func222 results222 [] ?_;exact fun H' hs=> UC.of hs (i:=0) rfl ⟨rfl,ht,AH⟩
theorem S5(sb:Nat)(l:List Int)(jj:List Value)(n cap:Nat)(hn:n=l.length)(TO:n<=12)(hS:H sb=some (true,.cells ⟨(IA l)++jj⟩ 3 (0,0))):
  bA M 135 #[.slice (some ⟨sb,0,none⟩) n cap] H (UC H sb jj (fun v m=> v=.tuple ⟨[]⟩/\lA 0 n l m/\pE 0 n m)):=by
 have hw:=LR n oM;refine bA.enter (vs:= [.slice (some ⟨sb,0,none⟩) n cap]) func135 rfl ntmps135 (Nat.le_of_ble_eq_true rfl) (iA.pull hS) fun St c cs hK=> ?_;refine qE ?_;refine .cl (fun H hs=> gW M H n oM) ?_;refine .e (Or.FR (l:=l) 0 (fun v m=> v=.tuple ⟨[]⟩/\lA 0 n l m/\pE 0 n m) rfl rfl rfl rfl rfl dE rfl (fun H hs=> .h (aAM M H sb l jj n cap (bl n:Nat) hn TO (hs.get (i:=0) rfl))) (fun v m hm=> ?_));refine U ?_;obtain⟨rfl,ht,AH⟩:=hm;refine .ov hK func135 results135 [] ?_;exact fun H' hs=> UC.of hs (i:=0) rfl ⟨rfl,ht,AH⟩
theorem WN(c0:Nat):bA M 272 #[.slice none 0 c0,.int .i64 0,.int .i64 ((0:Nat):Int)] H (fun v H'=> H.le H'/\v=.tuple ⟨[]⟩):=by
 refine .en func272 ntmps272 fun St c cs hK=> ?_;refine U5 ?_;refine .done (.block (.loop (.seq (.sr ?_))));refine U6 ?_;refine .ov hK func272 results272 [] ?_;exact okB
theorem Q2(c0:Nat)(lim:Int):bA M 222 #[.slice none 0 c0,.int .i64 0,.int .i64 ((0:Nat):Int),.int .i64 lim] H (fun v H'=> H.le H'/\v=.tuple ⟨[]⟩):=by
 refine .en func222 ntmps222 fun St c cs hK=> ?_;refine U7 ?_;refine .done (.block (.loop (.block (.sr ?_))));refine TJ ?_;refine .cl (fun H hs=> WN M H c0) ?_;refine U ?_;refine .rt hK func222 results222 [] ?_;exact okB
theorem tX(c0:Nat):bA M 135 #[.slice none 0 c0] H (fun v H'=> H.le H'/\v=.tuple ⟨[]⟩):=by
 have hw:=LR 0 oM;refine .en func135 ntmps135 fun St c cs hK=> ?_;refine qE ?_;refine .cl (fun H hs=> gW M H 0 oM) ?_;refine .cl (fun H hs=> Q2 M H c0 (bl 0:Nat)) ?_;refine U ?_;refine .ov hK func135 results135 [] ?_;exact okB
theorem tQ(c0:Nat):bA M 136 #[.slice none 0 c0] H (fun v H'=> H.le H'/\v=.slice none 0 c0):=by
 refine .en func136 ntmps136 fun St c cs hK=> ?_;refine TJ ?_;refine .rt hK func136 results136 [_] ?_;exact okB
end
def Gl.K4(g:Gl 3 1)(m:List Value)(h:m.length=g.n):Gl 3 1:=⟨g.blk,g.n,g.cap,m,g.kB,by rw[h,Nat.mul_one],g.hc,g.hj,g.h0⟩
theorem Or.P7 {M:Md prog}{n:Nat}{H₀:View}{R:Rg}{L1:Bl}{o:Oper}{K:Rg->Bl->Prop}{cl:Go.Call}{x:Operand}{fv:Value}{d:Nat}(g:Gl 3 1)(u:List Int)(hg:g.l=(IA u))(TO:g.n<=12)
  (kA:o.op=.call cl) (iB:cl.callee=.value x) (hx:HA R x=some fv) (has:VC R cl.args.toList=some [g.val]) (hd:o.dst=some d) (hn:d<n)
  (hc:∀(H:View) (Q:Value->View->Prop),bA M 135 #[g.val] H Q->yB M fv [g.val] H Q)
  (hK:∀(g':Gl 3 1) (m:List Int),g'.val=g.val->g'.n=g.n->g'.blk=g.blk->g'.l=(IA m)->lA 0 g.n u m->pE 0 g.n m->K ((d,.tuple ⟨[]⟩)::R) (L1++g'.bl)):Or M n H₀ R (L1++g.bl) o K:=by
 have nM:u.length=g.n:=by have:=g.hl;rw[hg,RB] at this;omega
 cases hb:g.blk with
 | none=>
  have aC:=g.h0 hb;have W6:=g.hc;have h0:g.n=0:=by omega
  have EJ:g.bl= []:=by unfold Gl.bl;rw[hb]
  have hv:g.val=.slice none 0 g.cap:=by unfold Gl.val;rw[hb,h0];rfl
  refine Or.PB (fun _:Unit=> .tuple ⟨[]⟩) (fun _=> []) (fun _=> True) kA iB hx has hd hn (fun _=> by simp) (fun H hs=> hc H _ ?_) (fun _ _=> ?_)
  ·rw[hv];exact bA.mono (tX M H g.cap) (fun v H' ⟨h1,h2⟩=> ⟨h1,(),h2,trivial,by simp⟩)
  ·rw[List.append_nil];exact hK g u rfl rfl rfl hg (lA.refl _ _ _) (fun p q h1 h2 h3=> by omega)
 | some b=>
  have EJ:g.bl= [(b,true,.cells ⟨(IA u)++g.kB⟩ 3 (0,0))]:=by unfold Gl.bl;rw[hb,hg]
  have hv:g.val=.slice (some ⟨b,0,none⟩) g.n g.cap:=by unfold Gl.val;rw[hb];rfl
  rw[EJ];refine Or.FR (l:=u) L1.length (fun v m=> v=.tuple ⟨[]⟩/\lA 0 g.n u m/\pE 0 g.n m) kA iB hx has hd hn (by rw[List.getElem?_append_right (Nat.le_refl _),Nat.sub_self];rfl)
   (fun H hs=> hc H _ ?_) (fun v m ⟨h1,h2,h3⟩=> ?_)
  ·rw[hv];exact S5 M H b u g.kB g.n g.cap nM.symm TO (hs.get (i:=L1.length) (by rw[List.getElem?_append_right (Nat.le_refl _),Nat.sub_self];rfl))
  ·subst h1;have QN:m.length=g.n:=by rw[h2.len];exact nM
   have:=hK (Gl.K4 g (IA m) (by rw[RB];exact QN)) m rfl rfl rfl rfl h2 h3;have j0:(Gl.K4 g (IA m) (by rw[RB];exact QN)).bl= [(b,true,.cells ⟨(IA m)++g.kB⟩ 3 (0,0))]:=by
    unfold Gl.bl Gl.K4;simp only[hb]
   rw[j0] at this;rw[List.set_append_right _ _ (Nat.le_refl _),Nat.sub_self];exact this
theorem Or.D6 {M:Md prog}{n:Nat}{H₀:View}{R:Rg}{L1:Bl}{o:Oper}{K:Rg->Bl->Prop}{cl:Go.Call}{x:Operand}{fv:Value}{d:Nat}(g:Gl 3 1)(u:List Int)(hg:g.l=(IA u))(TO:g.n<=1000000)
  (kA:o.op=.call cl) (iB:cl.callee=.value x) (hx:HA R x=some fv) (has:VC R cl.args.toList=some [g.val]) (hd:o.dst=some d) (hn:d<n)
  (hc:∀(H:View) (Q:Value->View->Prop),bA M 136 #[g.val] H Q->yB M fv [g.val] H Q)
  (hK:∀(g':Gl 3 1),g'.n=(aB u g.n).length->g'.l=(IA (aB u g.n))->K ((d,g'.val)::R) (L1++g'.bl)):Or M n H₀ R (L1++g.bl) o K:=by
 have nM:u.length=g.n:=by have:=g.hl;rw[hg,RB] at this;omega
 cases hb:g.blk with
 | none=>
  have aC:=g.h0 hb;have W6:=g.hc;have h0:g.n=0:=by omega
  have EJ:g.bl= []:=by unfold Gl.bl;rw[hb]
  have hv:g.val=.slice none 0 g.cap:=by unfold Gl.val;rw[hb,h0];rfl
  have o5:u= []:=List.eq_nil_of_length_eq_zero oM;refine Or.PB (fun _:Unit=> g.val) (fun _=> []) (fun _=> True) kA iB hx has hd hn (fun _=> by simp) (fun H hs=> hc H _ ?_) (fun _ _=> ?_)
  ·rw[hv];exact bA.mono (tQ M H g.cap) (fun v H' ⟨h1,h2⟩=> ⟨h1,(),h2,trivial,by simp⟩)
  ·rw[List.append_nil];refine hK g (by rw[h0];rfl) ?_;rw[hg,o5,h0];rfl
 | some b=>
  have EJ:g.bl= [(b,true,.cells ⟨(IA u)++g.kB⟩ 3 (0,0))]:=by unfold Gl.bl;rw[hb,hg]
  have hv:g.val=.slice (some ⟨b,0,none⟩) g.n g.cap:=by unfold Gl.val;rw[hb];rfl
  rw[EJ];have hi:(L1++[(b,true,Obj.cells ⟨(IA u)++g.kB⟩ 3 (0,0))])[L1.length]? =some (b,true,Obj.cells ⟨(IA u)++g.kB⟩ 3 (0,0)):=by rw[List.getElem?_append_right (Nat.le_refl _),Nat.sub_self];rfl
  refine .wN kA iB hx has (Q:=fun H v H'=> MY H b u g.kB g.n g.cap v H') (fun H hs=> hc H _ ?_) (fun H v H' hs hq=> ?_)
  ·rw[hv];exact oU M H b u g.kB g.n g.cap nM.symm TO g.hc (hs.get hi)
  ·obtain⟨h1,rest,h2,h3,h4⟩:=hq;subst h2;have hle:=NQ u g.n;have W6:=g.hc;have hgj:=g.hj;refine⟨L1++[(b,true,.cells ⟨(IA (aB u g.n))++rest⟩ 3 (0,0))],_,?_,by rw[hd];exact⟨hn,rfl⟩,?_⟩
   ·have:=uF hs hi h1 h4;rw[List.set_append_right _ _ (Nat.le_refl _),Nat.sub_self] at this;exact this
   ·have:=hK ⟨some b,(aB u g.n).length,g.cap,(IA (aB u g.n)),rest,by rw[RB,Nat.mul_one],oM,oM,fun h=> by cases h⟩ rfl rfl;exact this
set_option maxHeartbeats 16000000
def Bk.HI(k:Bk)(line:Nat)(s:List UInt8):Option Int:=match k.line s with
 | some j=> if j=line then none else some (j:Nat)
 | none=> none
def Bk.PN(k:Bk)(line:Nat):List Int:=(qG (k.num line)).filterMap (k.HI line)
def aBY(g:Gl 3 1)(a:Int):Value:=.tuple ⟨[g.val,.int .i64 a]⟩
theorem Bk.YN {k:Bk}(ha:k.QA=0){i:Nat}(hi:i<k.nl):(k.num i).all CD=true/\1<=(k.num i).length/\(k.num i).length<=3:=by
 obtain⟨_,_,h,_⟩:=Bk.ZF ha hi;unfold isNum at h;simp only[Bool.and_eq_true,decide_eq_true_eq] at h;exact⟨h.2,h.1.1,h.1.2⟩
theorem rJ(s:List UInt8):∀m i,s.length-i=m->(cC s i).length<=2*m
 | 0,i,h=> by rw[sJ oM];exact Nat.le_refl _
 | m + 1,i,h=> by
  rw[lI oM,List.length_append];have h1:=rJ s m (i+1) oM;have h2:(gH s i).length<=2:=by
   unfold gH kI;rw[List.length_append];split <;> split <;> simp
  omega
theorem Bk.K0 {k:Bk}(ha:k.QA=0){i:Nat}(hi:i<k.nl):(k.PN i).length<=6:=by
 obtain⟨_,_,h⟩:=Bk.YN ha hi;have h1:=rJ (k.num i) _ 0 rfl;have h2:(k.PN i).length<=(qG (k.num i)).length:=List.length_filterMap_le _ _;unfold qG at h2;omega
section
variable(M:Md prog)(H:View)
theorem Q5(k:Bk)(A:Option Addr)(lc:Nat)(B:Option Addr)(tc:Nat)(hk:fE H k A lc B tc)(hn:k.small)(hG:gF H)(ha:k.QA=0)(line:Nat)(hl:line<k.nl):
  bA M 55 #[k.val A lc B tc,.int .i64 (line:Nat)] H (fun v H'=> H.le H'/\∃(g:Gl 3 1) (m:List Int),v=aBY g 0/\(lA 0 (k.PN line).length (k.PN line) m/\pE 0 (k.PN line).length m)/\(g.n=(aB m m.length).length/\g.l=IA (aB m m.length))/\∀x∈g.bl,H' x.1=some x.2/\H x.1=none):=by
 obtain⟨RU,hl1,fP⟩:=Bk.YN ha hl;have RN:=hn.nl;have hhl:=Bk.K0 ha hl;have hb:=fun(H':View)=> uA M H' ((line:Nat):Int) 0 ((k.nl:Int)-1) true (decide_eq_true oM);have kA:=fun(H':View) (h':H.le H')=> BC M H' k A lc B tc (hk.le h') hn (FA hG h') ha;have JS:=hk.rows;obtain⟨_,h0|⟨ab,ao,fa,gs,gt,gz,rfl,KS,SM⟩⟩:=JS
 ·omega
 obtain⟨F,fc,f1,_,_⟩:=SM line hl;have f2:tE false 1 gs (ao+((line:Nat):Int).toNat*3+1)=some (gA (k.num line)):=GG f1 dE;refine .en func55 ntmps55 fun St c cs hK=> ?_;refine U2 ?_;refine .bo fun b2=> ?_;refine .bo fun b3=> ?_;refine U4 ?_;refine Tc.dr [12] [] mixed rfl ?_;refine V6 0 ?_;refine .z 6 rfl (pA.tk fun H hs=> hb H) ?_;refine .z 7 rfl (pA.tk fun H hs=> kA H hs.base) ?_;refine V2 8 ?_;refine .nw 10 ?_;refine .ea 11 rfl (.al (zz:=fun b6=> ⟨S2.mk sL (.inr sL),?_⟩));refine .e 12 0 ?_;refine .nw 13 ?_;refine .dn ?_;refine DD ?_;refine .al fun b8=> ?_;refine DD ?_;refine To.uB rfl rfl rfl rfl rfl rfl dE (yB.h (ER M H (k.num line))) (fun v H₁ hv=> ?_);obtain⟨xK,sb,rfl,aC⟩:=hv;refine U ?_;have HI:=fun(H':View) (hc:wJ (k.num line) sb H')=> BO M H' (k.num line) RU oM sb hc;refine U ?_;refine Tc.db (R':= [(2,.pointer (some ⟨b2,0,none⟩)),(3,.pointer (some ⟨b3,0,none⟩)),(6,.pointer (some ⟨b6,0,none⟩)),(8,.pointer (some ⟨b8,0,none⟩)),(31,NT sb)]) (L':= [(b8,true,.cells ⟨[(Gl.nil 3 1).val]⟩ 24 (0,0)),(b6,true,.cells ⟨(k.val (some ⟨ab,ao,none⟩) lc B tc).cells.toList⟩ 166 (0,0)),(b3,true,.cells ⟨[.int .i64 (line:Nat)]⟩ 3 (0,0)),(b2,true,.cells ⟨(k.val (some ⟨ab,ao,none⟩) lc B tc).cells.toList⟩ 45 (0,0))]) ?_;refine Tc.MJ (A:= []) (ts:= [32]) (xs:=qG (k.num line)) (fun rest H₄ L₄=> ∃(g:Gl 3 1) (dn:List Int),L₄= [(b8,true,.cells ⟨[g.val]⟩ 24 (0,0)),(b6,true,.cells ⟨(k.val (some ⟨ab,ao,none⟩) lc B tc).cells.toList⟩ 166 (0,0)),(b3,true,.cells ⟨[.int .i64 (line:Nat)]⟩ 3 (0,0)),(b2,true,.cells ⟨(k.val (some ⟨ab,ao,none⟩) lc B tc).cells.toList⟩ 45 (0,0))]++g.bl
   /\g.l=IA dn/\dn++rest.filterMap (k.HI line)=k.PN line/\wJ (k.num line) sb H₄/\H₁.le H₄) (fun _ _ _=> False) rfl rfl rfl rfl HI (fun _ _=> wJ.le _ _) (fun _ _ _ ⟨_,_,_,_,_,h,_⟩=> h) rfl (fun _ _=> rfl)
   ⟨Gl.nil 3 1,[],rfl,rfl,rfl,aC,View.le_refl _⟩ ?_ ?_ (fun _ _ _ _ h=> h.elim)
 ·rintro r x rest _ l tmps asg bdy H₄ _ hx ⟨g,dn,rfl,q1,q2,q3,q4⟩ Q St1 cc1 cs1 bN q q';have II:=fun(H':View) (h':H₄.le H')=> cO M H' k (some ⟨ab,ao,none⟩) lc B tc (hk.rows.le (View.le_trans xK (View.le_trans q4 h'))) hn.nl x;have MG:g.n=dn.length:=by have:=g.hl;rw[q1,RB] at this;omega
  have SP:dn.length<=6:=by
   have:=congrArg List.length q2;rw[List.length_append] at this;omega
  cases P8:k.line x with
  | none=>
   rw[P8] at II;have e2:fB none= -1:=rfl;rw[e2] at II;have e3:k.HI line x=none:=by unfold Bk.HI;rw[P8]
   rw[List.filterMap_cons_none e3] at q2;refine U3 ?_;refine Tc.beginRound (i:=0) rfl rfl rfl ?_;refine U5 ?_;refine .cl (fun H hs=> II H hs.base) ?_;refine XM ?_;refine Tc.WA bN (i:=0) rfl (.inl ⟨rfl,rfl⟩) (fun H' hs=> q H' H₄ _ hs ⟨g,dn,rfl,q1,q2,q3,q4⟩)
  | some j=>
   rw[P8] at II;have e2:fB (some j)=(j:Nat):=rfl;rw[e2] at II;by_cases c1:j=line
   ·have e3:k.HI line x=none:=by unfold Bk.HI;rw[P8];exact if_pos c1
    rw[List.filterMap_cons_none e3] at q2;refine U3 ?_;refine Tc.beginRound (i:=0) rfl rfl rfl ?_;refine U5 ?_;refine .cl (fun H hs=> II H hs.base) ?_;refine XM ?_;refine Tc.WA bN (i:=0) rfl (.inl ⟨rfl,rfl⟩) (fun H' hs=> q H' H₄ _ hs ⟨g,dn,rfl,q1,q2,q3,q4⟩)
   ·have e3:k.HI line x=some (j:Nat):=by unfold Bk.HI;rw[P8];exact if_neg c1
    rw[List.filterMap_cons_some e3] at q2;refine U3 ?_;refine Tc.beginRound (i:=0) rfl rfl rfl ?_;refine U5 ?_;refine .cl (fun H hs=> II H hs.base) ?_;refine aP ?_;refine .e (.bs (zz:=fun bs=> ?_));refine .e (Or.append (E:=en) 7 rfl rfl rfl rfl rfl rfl rfl rfl rfl rfl rfl rfl rfl rfl rfl (fun H hs=> ZA.of (hs.get (i:=0) rfl) (Nat.le_of_ble_eq_true rfl)) rfl oM rfl dE (fun g' gP lM=> ?_));refine U3 ?_;refine Tc.WA bN (i:=1) rfl (.inl ⟨rfl,rfl⟩) (fun H' hs=> q H' H₄ _ (hs.less sL) ⟨g',dn++[((j:Nat):Int)],rfl,by rw[lM,q1];unfold IA;rw[List.map_append];rfl,by rw[List.append_assoc];exact q2,q3,q4⟩)
 ·rintro r H₄ _ ⟨g,dn,rfl,q1,q2,q3,q4⟩;have q5:dn=k.PN line:=by rw[<-q2];simp
  subst q5;have MG:g.n=(k.PN line).length:=by have:=g.hl;rw[q1,RB] at this;omega
  refine U4 ?_;refine .e (Or.P7 (L1:= [(r,true,.deferred (some [])),(b8,true,.cells ⟨[g.val]⟩ 24 (0,0)),(b6,true,.cells ⟨(k.val (some ⟨ab,ao,none⟩) lc B tc).cells.toList⟩ 166 (0,0)),(b3,true,.cells ⟨[.int .i64 (line:Nat)]⟩ 3 (0,0)),(b2,true,.cells ⟨(k.val (some ⟨ab,ao,none⟩) lc B tc).cells.toList⟩ 45 (0,0))]) g (k.PN line) q1 oM rfl rfl rfl rfl rfl dE (fun H Q h=> .h h) (fun g' m u5 dN jM YU ht hs'=> ?_));rw[<-u5];rw[MG] at ht hs' dN;have QN:m.length=(k.PN line).length:=ht.len;refine U4 ?_;refine .e (Or.D6 (L1:= [(r,true,.deferred (some [])),(b8,true,.cells ⟨[g'.val]⟩ 24 (0,0)),(b6,true,.cells ⟨(k.val (some ⟨ab,ao,none⟩) lc B tc).cells.toList⟩ 166 (0,0)),(b3,true,.cells ⟨[.int .i64 (line:Nat)]⟩ 3 (0,0)),(b2,true,.cells ⟨(k.val (some ⟨ab,ao,none⟩) lc B tc).cells.toList⟩ 45 (0,0))]) g' m YU oM rfl rfl rfl rfl rfl dE (fun H Q h=> .h h) (fun g2 SW fP=> ?_));rw[dN,<-QN] at SW fP;refine U3 ?_;refine Tc.oY (E:=en) (i:=0) hK func55 results55 (vs:= [_,_]) rfl ⟨rfl,rfl,trivial⟩ ?_;exact fun H' hs=> ⟨View.le_trans xK (View.le_trans q4 hs.base),g2,m,rfl,⟨ht,hs'⟩,⟨SW,fP⟩,fun x hx=> ⟨hs.at_ x (by simp[hx]),none_le (View.le_trans xK q4) (hs.out x (by simp[hx]))⟩⟩
end
def Bk.dX(k:Bk)(s:List UInt8):Bool:=(qG s).all fun x=> (k.line x).isNone
def Bk.CR(k:Bk)(s:List UInt8)(i:Nat):Bool:=(qG (k.num i)).all fun x=> !NA x s
def Bk.safe(k:Bk)(s:List UInt8):Bool:=k.dX s&&wF (k.CR s) k.nl
def sB(s:List UInt8):Nat:=(s.map pn).sum
theorem UI(s:List UInt8)(h:s.all CD=true):sB s<=10*s.length:=by
 induction s with
 | nil=> exact Nat.le_refl _
 | cons x t ih=>
  rw[List.all_cons,Bool.and_eq_true] at h;have h1:=ih h.2;have h2:=W2 h.1;unfold sB at h1 ⊢;rw[List.map_cons,List.sum_cons,List.length_cons];omega
theorem vY {s:List UInt8}{p:Nat}{x:UInt8}(h:s[p]? =some x):sB (s.take (p+1))=sB (s.take p)+pn x:=by
 obtain⟨hp,rfl⟩:=List.getElem?_eq_some_iff.1 h;unfold sB;rw[List.take_succ_eq_append_getElem hp,List.map_append,List.sum_append];rfl
section
variable(M:Md prog)(H:View)
theorem E3(k:Bk)(A:Option Addr)(lc:Nat)(B:Option Addr)(tc:Nat)(hk:fE H k A lc B tc)(hn:k.small)(ha:k.QA=0)(s:List UInt8)(UP:s.all CD=true)(lU:s.length<=1000):
  bA M 138 #[k.val A lc B tc,gA s] H (fun v H'=> H.le H'/\v=.bool (k.safe s)):=by
 have RN:=hn.nl;refine .en func138 ntmps138 fun St c cs hK=> ?_;refine U2 ?_;refine .bo fun b2=> ?_;refine .bo fun b3=> ?_;refine .al fun b4=> ?_;refine U5 ?_;refine To.uB rfl rfl rfl rfl rfl rfl dE (yB.h (ER M H s)) (fun v H₁ hv=> ?_);obtain⟨xK,sb,rfl,aC⟩:=hv;refine U ?_;have HI:=fun(H':View) (hc:wJ s sb H')=> BO M H' s UP lU sb hc;refine U ?_;refine Tc.db (R':= [(2,.pointer (some ⟨b2,0,none⟩)),(3,.pointer (some ⟨b3,0,none⟩)),(4,.pointer (some ⟨b4,0,none⟩)),(10,NT sb)]) (L':= [(b4,true,.cells ⟨[.bool false]⟩ 4 (0,0)),(b3,true,.cells ⟨[gA s]⟩ 9 (0,0)),(b2,true,.cells ⟨(k.val A lc B tc).cells.toList⟩ 166 (0,0))]) ?_;refine Tc.bX (A:= []) (ts:= [11]) (xs:=qG s) (fun rest H₄=> k.dX s=rest.all (fun x=> (k.line x).isNone)/\wJ s sb H₄/\H₁.le H₄) (fun j H₄=> j=.ret/\k.dX s=false/\H₁.le H₄) rfl rfl rfl rfl HI (fun _ _=> wJ.le _ _) (fun _ _ ⟨_,h,_⟩=> h) rfl (fun _ _=> rfl)
   ⟨rfl,aC,View.le_refl _⟩ ?_ ?_ ?_
 ·rintro r x rest _ l tmps asg bdy H₄ _ hx ⟨rfl,q2,q3,q4⟩ Q St1 cc1 cs1 bN q q';have II:=fun(H':View) (h':H₄.le H')=> cO M H' k A lc B tc (hk.rows.le (View.le_trans xK (View.le_trans q4 h'))) hn.nl x;rw[List.all_cons] at q2;cases P8:k.line x with
  | none=>
   rw[P8] at II q2;have e2:fB none= -1:=rfl;rw[e2] at II;refine U3 ?_;refine Tc.beginRound (i:=0) rfl rfl rfl ?_;refine U5 ?_;refine .cl (fun H hs=> II H hs.base) ?_;refine U5 ?_;refine Tc.WA bN (i:=0) rfl (.inl ⟨rfl,rfl⟩) (fun H' hs=> q H' H₄ _ hs ⟨rfl,q2,q3,q4⟩)
  | some j=>
   rw[P8] at II q2;have e2:fB (some j)=(j:Nat):=rfl;rw[e2] at II;refine U3 ?_;refine Tc.beginRound (i:=0) rfl rfl rfl ?_;refine U5 ?_;refine .cl (fun H hs=> II H hs.base) ?_;refine U7 ?_;refine Tc.WA bN (i:=0) rfl (.inr (.inl ⟨_,rfl,rfl⟩)) (fun H' hs=> q' H' H₄ _ _ hs ⟨rfl,rfl,q2,q4⟩)
 ·rintro r H₄ ⟨q2,q3,q4⟩;have Z6:=View.le_trans xK q4;have q5:k.dX s=true:=q2;refine Tc.marked (L:= [(b4,true,.cells ⟨[.bool false]⟩ 4 (0,0)),(b3,true,.cells ⟨[gA s]⟩ 9 (0,0)),(b2,true,.cells ⟨(k.val A lc B tc).cells.toList⟩ 166 (0,0))]) (rs:= []) ?_;refine qE ?_;refine Tc.db (Tc.wV (σ:= { y:View×Nat×List Nat//H.le y.1/\y.2.1<=k.nl/\∀i,i<y.2.1->k.CR s i=true })
   (fun y=> (y.1.1,[(2,.pointer (some ⟨b2,0,none⟩)),(3,.pointer (some ⟨b3,0,none⟩)),(4,.pointer (some ⟨b4,0,none⟩)),(18,.slice A k.nl lc),(19,.int .i64 (k.nl:Nat)),(20,.int .i64 (y.1.2.1:Nat))],[(b4,true,.cells ⟨[.bool false]⟩ 4 (0,0)),(b3,true,.cells ⟨[gA s]⟩ 9 (0,0)),(b2,true,.cells ⟨(k.val A lc B tc).cells.toList⟩ 166 (0,0))]++Mk y.1.2.2,marks y.1.2.2)) (fun y=> k.nl-y.1.2.1) ?_ ⟨(H₄,0,[r]),Z6,Nat.zero_le _,fun i hi=> absurd hi (Nat.not_lt_zero _)⟩)
  rintro⟨⟨H₅,i,rs⟩,g1,g2,g3⟩ ih;simp only at g1 g2 g3;show Tc M St _ _ H₅ _ [(2,.pointer (some ⟨b2,0,none⟩)),(3,.pointer (some ⟨b3,0,none⟩)),(4,.pointer (some ⟨b4,0,none⟩)),(18,.slice A k.nl lc),(19,.int .i64 (k.nl:Nat)),(20,.int .i64 (i:Nat))] ([(b4,true,.cells ⟨[.bool false]⟩ 4 (0,0)),(b3,true,.cells ⟨[gA s]⟩ 9 (0,0)),(b2,true,.cells ⟨(k.val A lc B tc).cells.toList⟩ 166 (0,0))]++Mk rs) (marks rs) _;by_cases c1:i=k.nl
  ·have e:k.safe s=true:=by
    unfold Bk.safe;rw[q5,(vC k.nl).2 (by rw[<-c1];exact g3)];rfl
   subst c1;rw[e] at hK;refine qE ?_;refine Tc.B3 (E:=en) (L:= [(b4,true,.cells ⟨[.bool true]⟩ 4 (0,0)),(b3,true,.cells ⟨[gA s]⟩ 9 (0,0)),(b2,true,.cells ⟨(k.val A lc B tc).cells.toList⟩ 166 (0,0))]) (rs:=rs) hK func138 results138 (vs:= [_]) (by refine⟨⟨0,_,_,_,_,_,_,_,rfl,rfl,rfl,rfl⟩,?_⟩;exact trivial) ?_;exact fun H' hs=> ⟨View.le_trans g1 hs.base,rfl⟩
  ·have c2:i<k.nl:=by omega
   obtain⟨RU,hl1,fP⟩:=Bk.YN ha c2;have JS:=hk.rows;obtain⟨_,h0|⟨ab,ao,fa,gs,gt,gz,rfl,KS,SM⟩⟩:=JS
   ·omega
   obtain⟨F,fc,f1,_,_⟩:=SM i c2;have aE1:=g1 _ _ KS;refine LG ?_;refine .al fun b7=> ?_;refine U6 ?_;refine To.uB rfl rfl rfl rfl rfl rfl dE (yB.h (ER M H₅ (k.num i))) (fun v H₆ hv=> ?_);obtain⟨aAn,sb2,rfl,NS⟩:=hv;refine U ?_;have aEk:=fun(H':View) (hc:wJ (k.num i) sb2 H')=> BO M H' (k.num i) RU oM sb2 hc;refine U ?_;refine Tc.db (R':= [(2,.pointer (some ⟨b2,0,none⟩)),(3,.pointer (some ⟨b3,0,none⟩)),(4,.pointer (some ⟨b4,0,none⟩)),(18,.slice (some ⟨ab,ao,none⟩) k.nl lc),(19,.int .i64 (k.nl:Nat)),(20,.int .i64 (i:Nat)),(26,NT sb2)]) (L':= [(b4,true,.cells ⟨[.bool false]⟩ 4 (0,0)),(b3,true,.cells ⟨[gA s]⟩ 9 (0,0)),(b2,true,.cells ⟨(k.val (some ⟨ab,ao,none⟩) lc B tc).cells.toList⟩ 166 (0,0))]++Mk rs) ?_;refine Tc.bX (A:= []) (ts:= [27]) (xs:=qG (k.num i)) (fun rest H₄=> k.CR s i=rest.all (fun x=> !NA x s)/\wJ (k.num i) sb2 H₄/\H₆.le H₄) (fun j H₄=> j=.ret/\k.CR s i=false/\H₆.le H₄) rfl rfl rfl rfl aEk (fun _ _=> wJ.le _ _) (fun _ _ ⟨_,h,_⟩=> h) rfl (fun _ _=> rfl)
     ⟨rfl,NS,View.le_refl _⟩ ?_ ?_ ?_
   ·rintro r2 x rest _ l tmps asg bdy H₇ _ hx ⟨rfl,p2,p3,p4⟩ Q St1 cc1 cs1 bN q q';rw[List.all_cons] at p2;cases o0:NA x s with
    | true=>
     rw[o0] at p2;refine U3 ?_;refine Tc.beginRound (i:=0) rfl rfl rfl ?_;refine U5 ?_;refine .cl (fun H hs=> oD M H x s true o0) ?_;refine U6 ?_;refine Tc.WA bN (i:=0) rfl (.inr (.inl ⟨_,rfl,rfl⟩)) (fun H' hs=> q' H' H₇ _ _ hs ⟨rfl,rfl,p2,p4⟩)
    | false=>
     rw[o0] at p2;refine U3 ?_;refine Tc.beginRound (i:=0) rfl rfl rfl ?_;refine U5 ?_;refine .cl (fun H hs=> oD M H x s false o0) ?_;refine U4 ?_;refine Tc.WA bN (i:=0) rfl (.inl ⟨rfl,rfl⟩) (fun H' hs=> q H' H₇ _ hs ⟨rfl,p2,p3,p4⟩)
   ·rintro r2 H₇ ⟨p2,p3,p4⟩;refine Tc.marked (L:= [(b4,true,.cells ⟨[.bool false]⟩ 4 (0,0)),(b3,true,.cells ⟨[gA s]⟩ 9 (0,0)),(b2,true,.cells ⟨(k.val (some ⟨ab,ao,none⟩) lc B tc).cells.toList⟩ 166 (0,0))]) (rs:=rs) ?_;refine U6 ?_;have UD:=ih ⟨(H₇,i+1,r2::rs),View.le_trans g1 (View.le_trans aAn p4),c2,fun m hm=> by
     by_cases e:m=i
     ·subst e;exact p2
     ·exact g3 m (by simp only at hm;omega)⟩ (by simp only;omega)
    exact Tc.db UD
   ·rintro r2 j H₇ ⟨rfl,p2,p4⟩;have e:k.safe s=false:=by
     unfold Bk.safe;rw[xF c2 p2];simp
    rw[e] at hK;refine Tc.marked (L:= [(b4,true,.cells ⟨[.bool false]⟩ 4 (0,0)),(b3,true,.cells ⟨[gA s]⟩ 9 (0,0)),(b2,true,.cells ⟨(k.val (some ⟨ab,ao,none⟩) lc B tc).cells.toList⟩ 166 (0,0))]) (rs:=rs) ?_;refine Tc.B3 (E:=en) (L:= [(b4,true,.cells ⟨[.bool false]⟩ 4 (0,0)),(b3,true,.cells ⟨[gA s]⟩ 9 (0,0)),(b2,true,.cells ⟨(k.val (some ⟨ab,ao,none⟩) lc B tc).cells.toList⟩ 166 (0,0))]) (rs:=r2::rs) hK func138 results138 (vs:= [_]) (by refine⟨⟨0,_,_,_,_,_,_,_,rfl,rfl,rfl,rfl⟩,?_⟩;exact trivial) ?_;exact fun H' hs=> ⟨View.le_trans g1 (View.le_trans aAn (View.le_trans p4 hs.base)),rfl⟩
 ·rintro r j H₄ ⟨rfl,q2,q4⟩;have e:k.safe s=false:=by
   unfold Bk.safe;rw[q2];rfl
  rw[e] at hK;refine Tc.oY (E:=en) (i:=0) hK func138 results138 (vs:= [_]) rfl (by refine⟨⟨1,_,_,_,_,_,_,_,rfl,rfl,rfl,rfl⟩,?_⟩;exact trivial) ?_;exact fun H' hs=> ⟨View.le_trans xK (View.le_trans q4 hs.base),rfl⟩
def Bk.tH(k:Bk)(s:List UInt8):Value:=
 if k.QA≠0 then .tuple ⟨[.bool false,.int .i64 k.QA]⟩ else if isNum s=false then .tuple ⟨[.bool false,.int .i64 3]⟩ else if k.clash s=true then .tuple ⟨[.bool false,.int .i64 10]⟩ else .tuple ⟨[.bool (k.safe s),.int .i64 0]⟩
theorem cZ(k:Bk)(A:Option Addr)(lc:Nat)(B:Option Addr)(tc:Nat)(hk:fE H k A lc B tc)(hn:k.small)(hG:gF H)(s:List UInt8)(lU:s.length<=1000):
  bA M 56 #[k.val A lc B tc,gA s] H (fun v H'=> H.le H'/\v=k.tH s):=by
 by_cases ha:k.QA=0
 ·have kA:=fun(H':View) (h':H.le H')=> BC M H' k A lc B tc (hk.le h') hn (FA hG h') ha;cases h1:isNum s with
  | false=>
   have ev:k.tH s=.tuple ⟨[.bool false,.int .i64 3]⟩:=by
    unfold Bk.tH;rw[if_neg (by simp[ha]),if_pos h1]
   rw[ev];refine .en func56 ntmps56 fun St c cs hK=> ?_;refine U2 ?_;refine .bo fun b2=> ?_;refine U6 ?_;refine .cl (fun H hs=> kA H hs.base) ?_;refine U3 ?_;refine .al fun b6=> ?_;refine XM ?_;refine .cl (fun H hs=> OF (qC M H s oM) h1) ?_;refine U9 ?_;refine .rt hK func56 results56 [_,_] ?_;exact okB
  | true=>
   have RU:s.all CD=true:=by
    unfold isNum at h1;simp only[Bool.and_eq_true] at h1;exact h1.2
   cases h2:k.clash s with
   | true=>
    have ev:k.tH s=.tuple ⟨[.bool false,.int .i64 10]⟩:=by
     unfold Bk.tH;rw[if_neg (by simp[ha]),if_neg (by simp[h1]),if_pos h2]
    rw[ev];refine .en func56 ntmps56 fun St c cs hK=> ?_;refine U2 ?_;refine .bo fun b2=> ?_;refine U6 ?_;refine .cl (fun H hs=> kA H hs.base) ?_;refine U3 ?_;refine .al fun b6=> ?_;refine XM ?_;refine .cl (fun H hs=> OF (qC M H s oM) h1) ?_;refine U9 ?_;refine .cl (fun H hs=> OF (wE M H k A lc (hk.rows.le hs.base) hn.nl s) h2) ?_;refine U8 ?_;refine .rt hK func56 results56 [_,_] ?_;exact okB
   | false=>
    have ev:k.tH s=.tuple ⟨[.bool (k.safe s),.int .i64 0]⟩:=by
     unfold Bk.tH;rw[if_neg (by simp[ha]),if_neg (by simp[h1]),if_neg (by simp[h2])]
    rw[ev];refine .en func56 ntmps56 fun St c cs hK=> ?_;refine U2 ?_;refine .bo fun b2=> ?_;refine U6 ?_;refine .cl (fun H hs=> kA H hs.base) ?_;refine U3 ?_;refine .al fun b6=> ?_;refine XM ?_;refine .cl (fun H hs=> OF (qC M H s oM) h1) ?_;refine U9 ?_;refine .cl (fun H hs=> OF (wE M H k A lc (hk.rows.le hs.base) hn.nl s) h2) ?_;refine U9 ?_;refine .cl (fun H hs=> E3 M H k A lc B tc (hk.le hs.base) hn ha s RU lU) ?_;refine U3 ?_;refine .rt hK func56 results56 [_,_] ?_;exact okB
 ·have ev:k.tH s=.tuple ⟨[.bool false,.int .i64 k.QA]⟩:=if_pos ha;rw[ev];refine .en func56 ntmps56 fun St c cs hK=> ?_;refine U2 ?_;refine .bo fun b2=> ?_;refine U6 ?_;refine .cl (fun H hs=> bH M H k A lc B tc true (hk.le hs.base) hn (FA hG hs.base) ha) ?_;refine U3 ?_;refine .al fun b6=> ?_;refine SR ?_;refine .rt hK func56 results56 [_,_] ?_;exact okB
theorem aL(s:List UInt8)(UP:s.all CD=true)(lU:s.length<=1000):bA M 45 #[gA s] H (fun v H'=> H.le H'/\v=.int .i64 (sB s:Nat)):=by
 have hb:=UI s UP;refine .en func45 ntmps45 fun St c cs hK=> ?_;refine PF ?_;refine .e (Or.AR (E:=en) (s:=⟨⟨s⟩⟩) rfl rfl rfl rfl rfl dE (fun it=> ?_));refine U2 ?_;refine Tc.db (Tc.sA (σ:= { p:Nat//p<=s.length }) (fun p=> ([(3,.int .i64 (sB (s.take p.1):Nat)),(7,.pointer (some ⟨it,0,none⟩))],[(it,true,.stringIter ⟨⟨s⟩⟩ p.1)])) (fun p=> s.length-p.1) ?_ ⟨0,Nat.zero_le _⟩);rintro⟨p,hp⟩ ih;show Tc M St _ _ _ _ [(3,.int .i64 (sB (s.take p):Nat)),(7,.pointer (some ⟨it,0,none⟩))] [(it,true,.stringIter ⟨⟨s⟩⟩ p)] _ _;have aFb:sB (s.take p)<=10*p:=by
  have h1:(s.take p).all CD=true:=List.all_eq_true.2 fun x hx=> List.all_eq_true.1 UP x (List.mem_of_mem_take hx);have h2:=UI (s.take p) h1;rw[List.length_take] at h2;omega
 by_cases c1:p=s.length
 ·subst c1;have Z4:¬s.length<(ByteArray.mk ⟨s⟩).size:=by show ¬s.length<s.length;omega
  rw[List.take_length];refine U2 ?_;refine .e (Or.uR 0 rfl rfl rfl Z4 rfl dE ?_);refine DD ?_;refine .rt hK func45 results45 [_] ?_;exact okB
 ·have c2:p<s.length:=by omega
  obtain⟨x,hx,hdx,OM⟩:=OQ s p c2 UP;have hpn:=W2 hdx;have VR:p<(ByteArray.mk ⟨s⟩).size:=c2;have ha:mA .add .i64 (sB (s.take p):Nat) (pn x:Nat)=some (.int .i64 ((sB (s.take (p+1)):Nat):Int)):=by
   rw[lB oM oM,vY hx];rfl
  refine U2 ?_;refine .e (Or.jO 0 rfl rfl rfl VR OM rfl dE ?_);refine vF ?_;refine .cl (fun H hs=> pO M H x hdx) ?_;refine U4 ?_;exact Tc.db (ih ⟨p+1,oM⟩ (by simp only;omega))
def IK(s:List UInt8):Value:=if isNum s=false then .tuple ⟨[.int .i64 0,.int .i64 3]⟩ else .tuple ⟨[.int .i64 (sB s:Nat),.int .i64 0]⟩
theorem bZ(s:List UInt8)(lU:s.length<=1000):bA M 13 #[gA s] H (fun v H'=> H.le H'/\v=IK s):=by
 cases h1:isNum s with
 | false=>
  have ev:IK s=.tuple ⟨[.int .i64 0,.int .i64 3]⟩:=if_pos h1;rw[ev];refine .en func13 ntmps13 fun St c cs hK=> ?_;refine U9 ?_;refine .cl (fun H hs=> OF (qC M H s oM) h1) ?_;refine U8 ?_;refine .rt hK func13 results13 [_,_] ?_;exact okB
 | true=>
  have RU:s.all CD=true:=by
   unfold isNum at h1;simp only[Bool.and_eq_true] at h1;exact h1.2
  have ev:IK s=.tuple ⟨[.int .i64 (sB s:Nat),.int .i64 0]⟩:=if_neg (by simp[h1]);rw[ev];refine .en func13 ntmps13 fun St c cs hK=> ?_;refine U9 ?_;refine .cl (fun H hs=> OF (qC M H s oM) h1) ?_;refine U7 ?_;refine .cl (fun H hs=> aL M H s RU lU) ?_;refine U3 ?_;refine .rt hK func13 results13 [_,_] ?_;exact okB
end
def EC(dg:List UInt8):Nat->List UInt8->List (List UInt8)
 | 0,s=> [s]
 | d+1,s=> dg.flatMap fun x=> EC dg d (s++[x])
def mL(dg:List UInt8)(many:Nat):List (List UInt8):=EC dg many []
theorem CQ(dg:List UInt8)(d:Nat)(s:List UInt8){p:Nat}{x:UInt8}(h:dg[p]? =some x):(dg.drop p).flatMap (fun x=> EC dg d (s++[x]))=EC dg d (s++[x])++(dg.drop (p+1)).flatMap (fun x=> EC dg d (s++[x])):=by
 obtain⟨hp,rfl⟩:=List.getElem?_eq_some_iff.1 h;rw[List.drop_eq_getElem_cons hp,List.flatMap_cons]
def mS(b1 b2:Nat):Value:=.func (.func 225) #[] #[.pointer (some ⟨b1,0,none⟩),.pointer (some ⟨b2,0,none⟩)]
def C2(b1 b3 b2 b4:Nat):Value:=.func (.func 226) #[] #[.pointer (some ⟨b1,0,none⟩),.pointer (some ⟨b3,0,none⟩),.pointer (some ⟨b2,0,none⟩),.pointer (some ⟨b4,0,none⟩)]
structure fL(many:Nat)(dg:List UInt8)(b1 b2:Nat)(H:View):Prop where
 a:∃f,H b1=some (f,.cells ⟨[.int .i64 (many:Nat)]⟩ 3 (0,0))
 b:∃f,H b2=some (f,.cells ⟨[gA dg]⟩ 9 (0,0))
theorem fL.le {many:Nat}{dg:List UInt8}{b1 b2:Nat}(H H':View)(h:H.le H')(c:fL many dg b1 b2 H):fL many dg b1 b2 H':=⟨c.a.imp fun _ e=> h _ _ e,c.b.imp fun _ e=> h _ _ e⟩
def iO(l b1 b2 b3 b4:Nat):Bl:= [(b4,true,.cells ⟨[C2 b1 b3 b2 b4]⟩ 101 (0,0)),(b3,true,.cells ⟨[.func (.yield l) #[] #[]]⟩ 101 (0,0))]
section
variable(M:Md prog)(H:View)
theorem aCd(many:Nat)(dg:List UInt8):bA M 139 #[.int .i64 (many:Nat),gA dg] H (fun v H'=> H.le H'/\∃b1 b2,v=mS b1 b2/\fL many dg b1 b2 H'):=by
 refine .en func139 ntmps139 fun St c cs hK=> ?_;refine U2 ?_;refine .bo fun b2=> ?_;refine .bo fun b3=> ?_;refine U7 ?_;refine .rt hK func139 results139 [_] ?_;exact fun H' hs=> ⟨hs.base,b2,b3,rfl,⟨true,hs.get (i:=1) rfl⟩,⟨true,hs.get (i:=0) rfl⟩⟩
theorem aAH(many:Nat)(dg:List UInt8)(hm:many<=1000)(RU:dg.all CD=true)(SP:dg.length<=1000)(l b1 b2 b3 b4:Nat)(xs:List (List UInt8))(J:List (List UInt8)->View->Prop)(D:View->Prop)(aC:∀rest H',J rest H'->fL many dg b1 b2 H')
  (hy:∀x rest (_:Unit) H' H'',x∈xs->J (x::rest) H'->iA H' [] H''->yB M (.func (.yield l) #[] #[]) [gA x] H'' fun v H3=> (v=.bool true/\∃H₂,iA H₂ [] H3/\J rest H₂)\/(v=.bool false/\D H3)):
  ∀ (d:Nat) (s:List UInt8) (rest:List (List UInt8)) (H₁ Hc:View),s.length+d=many->J (EC dg d s++rest) H₁->(∀x∈EC dg d s,x∈xs)->iA H₁ (iO l b1 b2 b3 b4) Hc-> 
   bA M 226 #[gA s,.pointer (some ⟨b1,0,none⟩),.pointer (some ⟨b3,0,none⟩),.pointer (some ⟨b2,0,none⟩),.pointer (some ⟨b4,0,none⟩)] Hc (fun v H3=> (v=.bool true/\∃H₂,iA H₂ (iO l b1 b2 b3 b4) H3/\J rest H₂)\/(v=.bool false/\∃H₂,H₂.le H3/\D H₂)):=by
 intro d;induction d with
 | zero=>
  intro s rest H₁ Hc hsd hJ eP iR;obtain⟨⟨fa,ha⟩,⟨fb,hb⟩⟩:=aC _ _ hJ;refine bA.enter (vs:= [gA s,.pointer (some ⟨b1,0,none⟩),.pointer (some ⟨b3,0,none⟩),.pointer (some ⟨b2,0,none⟩),.pointer (some ⟨b4,0,none⟩)]) func226 rfl ntmps226 (Nat.le_of_ble_eq_true rfl) (iR) fun St c cs hK=> ?_;unfold iO;refine TJ ?_;refine To.uB rfl rfl rfl rfl rfl rfl dE (hy s rest () H₁ H₁ (eP s (by simp[EC])) hJ (iA.nil H₁)) (fun v H₃ hv=> ?_);rcases hv with ⟨rfl,H4,h8,j3⟩|⟨rfl,hD⟩
  ·refine To.lower h8.base ?_;refine U2 ?_;refine .rt hK func226 results226 [_] ?_;exact fun H' hs=> .inl ⟨rfl,H4,hs,j3⟩
  ·refine U2 ?_;refine .rt hK func226 results226 [_] ?_;exact fun H' hs=> .inr ⟨rfl,H₃,hs.base,hD⟩
 | succ d ihd=>
  intro s rest H₁ Hc hsd hJ eP iR;obtain⟨⟨fa,ha⟩,⟨fb,hb⟩⟩:=aC _ _ hJ;refine bA.enter (vs:= [gA s,.pointer (some ⟨b1,0,none⟩),.pointer (some ⟨b3,0,none⟩),.pointer (some ⟨b2,0,none⟩),.pointer (some ⟨b4,0,none⟩)]) func226 rfl ntmps226 (Nat.le_of_ble_eq_true rfl) (iR) fun St c cs hK=> ?_;unfold iO;refine SR ?_;refine .e (Or.AR (E:=en) (s:=⟨⟨dg⟩⟩) rfl rfl rfl rfl rfl dE (fun it=> ?_));refine U2 ?_;refine Tc.db (Tc.oJ (σ:= { x:Nat×View//x.1<=dg.length/\J ((dg.drop x.1).flatMap (fun y=> EC dg d (s++[y]))++rest) x.2 })
   (fun x=> (x.1.2,[(0,gA s),(1,.pointer (some ⟨b1,0,none⟩)),(2,.pointer (some ⟨b3,0,none⟩)),(3,.pointer (some ⟨b2,0,none⟩)),(4,.pointer (some ⟨b4,0,none⟩)),(16,.pointer (some ⟨it,0,none⟩))],[(it,true,.stringIter ⟨⟨dg⟩⟩ x.1.1),(b4,true,.cells ⟨[C2 b1 b3 b2 b4]⟩ 101 (0,0)),(b3,true,.cells ⟨[.func (.yield l) #[] #[]]⟩ 101 (0,0))])) (fun x=> dg.length-x.1.1) ?_ ⟨(0,H₁),Nat.zero_le _,hJ⟩)
  rintro⟨⟨p,H₂⟩,g1,j1⟩ ih;simp only at g1 j1;show Tc M St _ _ H₂ _ [(0,gA s),(1,.pointer (some ⟨b1,0,none⟩)),(2,.pointer (some ⟨b3,0,none⟩)),(3,.pointer (some ⟨b2,0,none⟩)),(4,.pointer (some ⟨b4,0,none⟩)),(16,.pointer (some ⟨it,0,none⟩))] [(it,true,.stringIter ⟨⟨dg⟩⟩ p),(b4,true,.cells ⟨[C2 b1 b3 b2 b4]⟩ 101 (0,0)),(b3,true,.cells ⟨[.func (.yield l) #[] #[]]⟩ 101 (0,0))] _ _;by_cases c1:p=dg.length
  ·subst c1;have Z4:¬dg.length<(ByteArray.mk ⟨dg⟩).size:=by show ¬dg.length<dg.length;omega
   rw[List.drop_length] at j1;refine U2 ?_;refine .e (Or.uR 0 rfl rfl rfl Z4 rfl dE ?_);refine U9 ?_;refine .rt hK func226 results226 [_] ?_;exact fun H' hs=> .inl ⟨rfl,H₂,hs.less sL,j1⟩
  ·have c2:p<dg.length:=by omega
   obtain⟨x,hx,hdx,OM⟩:=OQ dg p c2 RU;have VR:p<(ByteArray.mk ⟨dg⟩).size:=c2;obtain⟨⟨fa,ha⟩,⟨fb,hb⟩⟩:=aC _ _ j1;rw[CQ dg d s hx,List.append_assoc] at j1;have aEi:∀y∈EC dg d (s++[x]),y∈xs:=fun y hyy=> eP y (List.mem_flatMap.2 ⟨x,List.mem_of_getElem? hx,hyy⟩);have e2:(dg.drop ((p:Nat):Int).toNat).take ((((p:Nat):Int)+1).toNat-((p:Nat):Int).toNat)= [x]:=by
    rw[show(((p:Nat):Int)+1).toNat-((p:Nat):Int).toNat=1 by omega,Int.toNat_natCast];obtain⟨hp',rfl⟩:=List.getElem?_eq_some_iff.1 hx;rw[List.drop_eq_getElem_cons hp'];rfl
   refine U2 ?_;refine .e (Or.jO 0 rfl rfl rfl VR OM rfl dE ?_);refine PF ?_;refine Tc.drC [] [8] [] mixed rfl ?_;refine .oo 0 ?_;refine .oo 1 ?_;refine .oo 2 ?_;refine .oo 3 ?_;refine .oo 4 ?_;refine .oo 5 ?_;refine Ta.SV 6 kR rfl rfl dE rfl rfl (pA.take (pA.kD (E:=en) rfl rfl rfl rfl rfl rfl oM oM oM)) ?_;refine Ta.SV 7 kR rfl rfl dE rfl rfl (pA.take (pA.HC rfl rfl rfl (by exact UE (by simp <;> omega)))) ?_;rw[e2];refine Ta.lift (L₂:= [(it,true,.stringIter ⟨⟨dg⟩⟩ (p+1))]) (L₁:=iO l b1 b2 b3 b4) rfl (fun Hx C1=> ?_);refine Ta.uB 8 kR rfl kR rfl rfl rfl rfl rfl rfl dE (yB.of (first:= []) (captured:= [_,_,_,_]) A8 rfl (ihd (s++[x]) _ H₂ Hx (by rw[List.length_append];show s.length+1+d=many;omega) j1 aEi C1)) (fun v H₃ hv=> ?_);rcases hv with ⟨rfl,H4,h8,j3⟩|⟨rfl,H4,hl4,hD⟩
   ·refine Ta.expand h8 ?_;unfold iO;refine .ea 9 rfl (Or.ZW .nt rfl dE ⟨S3.off kR,?_⟩);refine .dn ?_;refine U3 ?_;exact Tc.db (ih ⟨(p+1,H4),by simp only;omega,j3⟩ (by simp only;omega))
   ·refine .ea 9 rfl (Or.ZW .nt rfl dE ⟨S3.off kR,?_⟩);refine .dn ?_;refine U5 ?_;refine .rt hK func226 results226 [_] ?_;exact fun H' hs=> .inr ⟨rfl,H4,View.le_trans hl4 hs.base,hD⟩
theorem kZ(many:Nat)(dg:List UInt8)(hm:many<=1000)(RU:dg.all CD=true)(SP:dg.length<=1000)(b1 b2:Nat):
  tP M (mS b1 b2) (mL dg many) (fun x (_:Unit)=> [gA x]) (fun _ _=> []) (fun _ _=> []) (fL many dg b1 b2) [] H:=fun l J D aC h0 hy H₀ ZD=> by
 refine yB.of (first:= []) (captured:= [_,_]) aCt rfl ?_;refine bA.enter (vs:= [.func (.yield l) #[] #[],.pointer (some ⟨b1,0,none⟩),.pointer (some ⟨b2,0,none⟩)]) func225 rfl ntmps225 (Nat.le_of_ble_eq_true rfl) (ZD) fun St c cs hK=> ?_;refine U2 ?_;refine .bo fun b3=> ?_;refine U3 ?_;refine .al fun b4=> ?_;refine U8 ?_;refine To.lift (L₂:= []) (L₁:=iO l b1 b2 b3 b4) rfl (fun Hx hx=> ?_);refine To.uB rfl rfl rfl rfl rfl rfl dE (yB.of (first:= []) (captured:= [_,_,_,_]) A8 rfl (aAH M many dg hm RU SP l b1 b2 b3 b4 (mL dg many) J D aC (fun x rest e H' H'' h1 h2 h3=> hy x rest e H' H'' h1 h2 h3) many [] [] H Hx (Nat.zero_add _) (by rw[List.append_nil];exact h0) (fun x hx=> hx) hx)) (fun v H₃ hv=> ?_);refine U ?_;refine .ov hK func225 results225 [] ?_;intro H' hs;rcases hv with ⟨_,H4,h8,j3⟩|⟨_,H4,hl4,hD⟩
 ·exact⟨H4,View.le_trans h8.base hs.base,.inl j3⟩
 ·exact⟨H4,View.le_trans hl4 hs.base,.inr hD⟩
end
theorem qM {dg:List UInt8}:∀(d:Nat) (s x:List UInt8),x∈EC dg d s->x.length=s.length+d/\∀y∈x,y∈s\/y∈dg
 | 0,s,x,h=> by
  have:x=s:=by simpa [EC] using h
  subst this;exact⟨rfl,fun y hy=> .inl hy⟩
 | d + 1,s,x,h=> by
  obtain⟨z,hz,h2⟩:=List.mem_flatMap.1 h;obtain⟨h3,h4⟩:=qM d _ x h2;refine⟨by rw[h3,List.length_append];show s.length+1+d=_;omega,fun y hy=> ?_⟩;rcases h4 y hy with h5|h5
  ·rcases List.mem_append.1 h5 with h6|h6
   ·exact .inl h6
   ·have:y=z:=by simpa using h6
    subst this;exact .inr hz
  ·exact .inr h5
theorem lT {dg:List UInt8}{n:Nat}{x:List UInt8}(h:x∈mL dg n):x.length=n/\∀y∈x,y∈dg:=by
 obtain⟨h1,h2⟩:=qM n [] x h;exact⟨by simpa using h1,fun y hy=> (h2 y hy).resolve_left (by simp)⟩
theorem BS:mK.all CD=true:=by decide +kernel
def Bk.IE(k:Bk)(sf:Bool)(x:List UInt8):Bool:=!k.clash x&&(!sf||k.safe x)
def Bk.spare(k:Bk)(n:Nat)(sf:Bool):Option (List UInt8):=(mL mK n).find? (k.IE sf)
def JF(x:List UInt8)(t:Bool)(a:Int):Value:=.tuple ⟨[gA x,.bool t,.int .i64 a]⟩
def Bk.mI(k:Bk)(z:Int)(sf:Bool):Value:=
 if k.QA≠0 then JF [] false k.QA else if ¬(1<=z/\z<=3) then JF [] false 1 else match k.spare z.toNat sf with
  | some x=> JF x true 0
  | none=> JF [] false 0
section
variable(M:Md prog)(H:View)
theorem W5(k:Bk)(A:Option Addr)(lc:Nat)(B:Option Addr)(tc:Nat)(hk:fE H k A lc B tc)(hn:k.small)(hG:gF H)(z:Int)(sf:Bool):
  bA M 57 #[k.val A lc B tc,.int .i64 z,.bool sf] H (fun v H'=> H.le H'/\v=k.mI z sf):=by
 by_cases ha:k.QA=0
 ·have kA:=fun(H':View) (h':H.le H')=> BC M H' k A lc B tc (hk.le h') hn (FA hG h') ha;by_cases c1:1<=z/\z<=3
  ·obtain ⟨n,rfl⟩:∃n:Nat,z=n:=⟨z.toNat,oM⟩
   have ev:k.mI (n:Nat) sf=match k.spare n sf with
     | some x=> JF x true 0
     | none=> JF [] false 0:=by
    unfold Bk.mI;rw[if_neg (by simp[ha]),if_neg (fun h=> h c1)];rfl
   have hbt:=fun(H':View)=> uA M H' ((n:Nat):Int) 1 3 true (decide_eq_true c1);refine .en func57 ntmps57 fun St c cs hK=> ?_;refine U2 ?_;refine .bo fun b3=> ?_;refine .bo fun b5=> ?_;refine .al fun b6=> ?_;refine .al fun b7=> ?_;refine .al fun b8=> ?_;refine U4 ?_;refine .cl (fun H hs=> kA H hs.base) ?_;refine U3 ?_;refine .al fun b9=> ?_;refine XM ?_;refine .cl (fun H hs=> hbt H) ?_;refine DD ?_;refine To.uB rfl rfl rfl rfl rfl rfl dE (yB.h (aCd M H n mK)) (fun v H₁ hv=> ?_);obtain⟨xK,a1,a2,rfl,aC⟩:=hv;refine U ?_;have HI:=fun(H':View) (_:fL n mK a1 a2 H')=> kZ M H' n mK oM BS dE a1 a2;refine U ?_;refine Tc.db (R':= [(3,.pointer (some ⟨b3,0,none⟩)),(5,.pointer (some ⟨b5,0,none⟩)),(6,.pointer (some ⟨b6,0,none⟩)),(7,.pointer (some ⟨b7,0,none⟩)),(8,.pointer (some ⟨b8,0,none⟩)),(9,.pointer (some ⟨b9,0,none⟩)),(25,mS a1 a2)])
    (L':= [(b9,true,.cells ⟨(k.val A lc B tc).cells.toList⟩ 166 (0,0)),(b8,true,.cells ⟨[.int .i64 0]⟩ 25 (0,0)),(b7,true,.cells ⟨[.bool false]⟩ 4 (0,0)),(b6,true,.cells ⟨[gA []]⟩ 9 (0,0)),(b5,true,.cells ⟨[.bool sf]⟩ 4 (0,0)),(b3,true,.cells ⟨(k.val A lc B tc).cells.toList⟩ 45 (0,0))]) ?_
   refine Tc.MJ (A:= []) (ts:= [26]) (xs:=mL mK n) (fun rest H₄ L₄=> L₄= [(b9,true,.cells ⟨(k.val A lc B tc).cells.toList⟩ 166 (0,0)),(b8,true,.cells ⟨[.int .i64 0]⟩ 25 (0,0)),(b7,true,.cells ⟨[.bool false]⟩ 4 (0,0)),(b6,true,.cells ⟨[gA []]⟩ 9 (0,0)),(b5,true,.cells ⟨[.bool sf]⟩ 4 (0,0)),(b3,true,.cells ⟨(k.val A lc B tc).cells.toList⟩ 45 (0,0))]
     /\k.spare n sf=rest.find? (k.IE sf)/\fL n mK a1 a2 H₄/\H₁.le H₄)
     (fun j H₄ L₄=> ∃x,L₄= [(b9,true,.cells ⟨(k.val A lc B tc).cells.toList⟩ 166 (0,0)),(b8,true,.cells ⟨[.int .i64 0]⟩ 25 (0,0)),(b7,true,.cells ⟨[.bool true]⟩ 4 (0,0)),(b6,true,.cells ⟨[gA x]⟩ 9 (0,0)),(b5,true,.cells ⟨[.bool sf]⟩ 4 (0,0)),(b3,true,.cells ⟨(k.val A lc B tc).cells.toList⟩ 45 (0,0))]/\j=.ret/\k.spare n sf=some x/\H₁.le H₄)
     rfl rfl rfl rfl HI (fun _ _=> fL.le _ _) (fun _ _ _ ⟨_,_,h,_⟩=> h) rfl (fun _ _=> rfl) ⟨rfl,rfl,aC,View.le_refl _⟩ ?_ ?_ ?_
   ·rintro r x rest _ l tmps asg bdy H₄ _ hx ⟨rfl,q2,q3,q4⟩ Q St1 cc1 cs1 bN q q';have Z6:=View.le_trans xK q4;obtain⟨D1,hxd⟩:=lT hx;have aCZ:x.all CD=true:=List.all_eq_true.2 fun y hy=> List.all_eq_true.1 BS y (hxd y hy);have iB:=fun(H':View) (h':H₄.le H')=> wE M H' k A lc (hk.rows.le (View.le_trans Z6 h')) hn.nl x;have hsf:=fun(H':View) (h':H₄.le H')=> E3 M H' k A lc B tc (hk.le (View.le_trans Z6 h')) hn ha x aCZ oM;rw[List.find?_cons] at q2;cases h1:k.clash x with
    | true=>
     have e1:k.IE sf x=false:=by unfold Bk.IE;rw[h1];rfl
     rw[e1] at q2;rw[h1] at iB;refine U3 ?_;refine Tc.beginRound (i:=0) rfl rfl rfl ?_;refine U4 ?_;refine .x (.ld 7) ?_;refine U ?_;refine .cl (fun H hs=> iB H hs.base) ?_;refine U5 ?_;refine To.BB rfl dE rfl ?_;refine To.BB rfl dE rfl ?_;refine To.BB rfl dE rfl ?_;refine U6 ?_;refine Tc.WA bN (i:=0) rfl (.inl ⟨rfl,rfl⟩) (fun H' hs=> q H' H₄ _ hs ⟨rfl,q2,q3,q4⟩)
    | false=>
     rw[h1] at iB;cases sf with
     | false=>
      have e1:k.IE false x=true:=by unfold Bk.IE;rw[h1];rfl
      rw[e1] at q2;refine U3 ?_;refine Tc.beginRound (i:=0) rfl rfl rfl ?_;refine U4 ?_;refine .x (.ld 7) ?_;refine U ?_;refine .cl (fun H hs=> iB H hs.base) ?_;refine hU ?_;refine Tc.WA bN (i:=0) rfl (.inr (.inl ⟨_,rfl,rfl⟩)) (fun H' hs=> q' H' H₄ _ _ hs ⟨x,rfl,rfl,q2,q4⟩)
     | true=>
      cases h2:k.safe x with
      | true=>
       have e1:k.IE true x=true:=by unfold Bk.IE;rw[h1,h2];rfl
       rw[e1] at q2;rw[h2] at hsf;refine U3 ?_;refine Tc.beginRound (i:=0) rfl rfl rfl ?_;refine U4 ?_;refine .x (.ld 7) ?_;refine U ?_;refine .cl (fun H hs=> iB H hs.base) ?_;refine U7 ?_;refine .cl (fun H hs=> hsf H hs.base) ?_;refine qE ?_;refine Tc.WA bN (i:=0) rfl (.inr (.inl ⟨_,rfl,rfl⟩)) (fun H' hs=> q' H' H₄ _ _ hs ⟨x,rfl,rfl,q2,q4⟩)
      | false=>
       have e1:k.IE true x=false:=by unfold Bk.IE;rw[h1,h2];rfl
       rw[e1] at q2;rw[h2] at hsf;refine U3 ?_;refine Tc.beginRound (i:=0) rfl rfl rfl ?_;refine U4 ?_;refine .x (.ld 7) ?_;refine U ?_;refine .cl (fun H hs=> iB H hs.base) ?_;refine U7 ?_;refine .cl (fun H hs=> hsf H hs.base) ?_;refine U6 ?_;refine Tc.WA bN (i:=0) rfl (.inl ⟨rfl,rfl⟩) (fun H' hs=> q H' H₄ _ hs ⟨rfl,q2,q3,q4⟩)
   ·rintro r H₄ _ ⟨rfl,q2,q3,q4⟩;have e1:k.spare n sf=none:=q2;rw[ev,e1] at hK;refine U7 ?_;refine Tc.oY (E:=en) (i:=0) hK func57 results57 (vs:= [_,_,_]) rfl (by refine⟨⟨4,_,_,_,_,_,_,_,rfl,rfl,rfl,rfl⟩,?_⟩;refine⟨⟨3,_,_,_,_,_,_,_,rfl,rfl,rfl,rfl⟩,?_⟩;refine⟨⟨2,_,_,_,_,_,_,_,rfl,rfl,rfl,rfl⟩,?_⟩;exact trivial) ?_;exact fun H' hs=> ⟨View.le_trans xK (View.le_trans q4 hs.base),rfl⟩
   ·rintro r j H₄ _ ⟨x,rfl,rfl,q2,q4⟩;rw[ev,q2] at hK;refine Tc.oY (E:=en) (i:=0) hK func57 results57 (vs:= [_,_,_]) rfl (by refine⟨⟨4,_,_,_,_,_,_,_,rfl,rfl,rfl,rfl⟩,?_⟩;refine⟨⟨3,_,_,_,_,_,_,_,rfl,rfl,rfl,rfl⟩,?_⟩;refine⟨⟨2,_,_,_,_,_,_,_,rfl,rfl,rfl,rfl⟩,?_⟩;exact trivial) ?_;exact fun H' hs=> ⟨View.le_trans xK (View.le_trans q4 hs.base),rfl⟩
  ·have ev:k.mI z sf=JF [] false 1:=by
    unfold Bk.mI;rw[if_neg (by simp[ha]),if_pos c1]
   have hbt:=fun(H':View)=> uA M H' z 1 3 false (decide_eq_false c1);rw[ev];refine .en func57 ntmps57 fun St c cs hK=> ?_;refine U2 ?_;refine .bo fun b3=> ?_;refine .bo fun b5=> ?_;refine .al fun b6=> ?_;refine .al fun b7=> ?_;refine .al fun b8=> ?_;refine U4 ?_;refine .cl (fun H hs=> kA H hs.base) ?_;refine U3 ?_;refine .al fun b9=> ?_;refine XM ?_;refine .cl (fun H hs=> hbt H) ?_;refine DD ?_;refine .rt hK func57 results57 [_,_,_] ?_;exact okB
 ·have ev:k.mI z sf=JF [] false k.QA:=if_pos ha;rw[ev];refine .en func57 ntmps57 fun St c cs hK=> ?_;refine U2 ?_;refine .bo fun b3=> ?_;refine .bo fun b5=> ?_;refine .al fun b6=> ?_;refine .al fun b7=> ?_;refine .al fun b8=> ?_;refine U4 ?_;refine .cl (fun H hs=> bH M H k A lc B tc true (hk.le hs.base) hn (FA hG hs.base) ha) ?_;refine U3 ?_;refine .al fun b9=> ?_;refine LG ?_;refine Tc.drE [3] [1,2,3] [2,3] mixed rfl ?_;refine .nn 0 ?_;refine .ea 1 rfl (.st 3 (zz:=⟨S2.mk sL (.inr sL),?_⟩));refine .ea 2 rfl (.st 2 (zz:=⟨S2.mk sL (.inr sL),?_⟩));refine .e 3 1 ?_;refine .dn ?_;refine .rt hK func57 results57 [_,_,_] ?_;exact okB
end
end Go.Proofs.YtldmfjcgjdchcaaGreatDoor
namespace Go.RL
open Go.Conc
section
variable {P:Program}{E:Env P}{M:Md P}{n:Nat}{H₀:View}{R:Rg}{L:Bl}{o:Oper}{K:Rg->Bl->Prop}{d:Nat}
theorem Gl.LH {e:TypeId}{sz:Nat}(g:Gl e sz):(g.bl.map (·.1)).Nodup:=by
 unfold Gl.bl;split <;> simp
theorem Or.pW(k:Nat){cl:Go.Call}{x y:Operand}{t xt e:TypeId}{sz m:Nat}{yv:Value}{new:List Value}{g:Gl e sz}{r re rx:AA}{ex:TypeId}(kA:o.op=.call cl)(iB:cl.callee=.builtin .append)(NF:cl.argTypes=#[t,xt])(VG:cl.args=#[x,y])
  (hx:HA R x=some g.val) (hy:HA R y=some yv) (ht:E.ty t=some r) (JB:r.ds=.slice e) (eD:E.ty e=some re) (LD:re.size=sz) (kV:Nat.beq re.zero.cells.toList.length sz=true) (jV:E.ty xt=some rx) (hex:rx.ds=.slice ex) (QX:Nat.ble re.bytes 1000=true)
  (hL:L.drop k=g.bl) (BL:∀H,iA H₀ L H->ZA H sz yv m new) (hs:new.all single=true) (hm:g.n+m<=1000000000) (hd:o.dst=some d) (hn:d<n)
  (IY:∀g':Gl e sz,g'.n=g.n+m->g'.l=g.l++new->g'.blk=g.blk->g'.cap=g.cap->K ((d,g'.val)::R) (L.take k++g'.bl))
  (VS:∀g':Gl e sz,g'.n=g.n+m->g'.l=g.l++new->K ((d,g'.val)::R) (L++g'.bl)):Or M n H₀ R L o K:=
 .val hd hn fun H tmps LB hr=> by
  have G8:L=L.take k++g.bl:=by rw[<-hL,List.take_append_drop]
  have gR:=LB;unfold execOp;rw[kA];simp only[resolve,iB,NF,VG];have UX:Array.map (CB tmps) #[x,y]=#[g.val,yv]:=by simp[hr.ev hx,hr.ev hy]
  rw[UX];rw[G8] at LB;refine aA (Builtin.append_ #[t,xt] o.type #[g.val,yv]) _ ?_;refine CM ht JB eD LD (Nat.eq_of_beq_eq_true kV) ⟨rx,ex,jV,hex⟩ (Nat.le_of_ble_eq_true QX) hm (fun z hz=> LB.at_ z (by simp[hz])) (BL H gR) hs fun g' H' h1 h2 h3 h4 h5=> ?_;cases hb:g'.blk with
  | none=>
   have EJ:g'.bl= []:=by unfold Gl.bl;rw[hb]
   have hHH:H'=H:=funext fun c=> h4 c (fun b zH=> by rw[hb] at zH;cases zH);subst hHH;refine⟨_,rfl,L,gR,?_⟩;have:=VS g' h1 h2
   rwa [EJ,List.append_nil] at this
  | some b=>
   rcases h3 b hb with ⟨h6,h7⟩|h6
   ·exact⟨_,rfl,_,LB.grown (fun b zH=> (h3 b zH).imp And.left id) h4 h5,IY g' h1 h2 (hb.trans h6.symm) h7⟩
   ·have EJ:g'.bl= [(b,true,.cells ⟨g'.l++g'.kB⟩ e (0,0))]:=by unfold Gl.bl;rw[hb]
    have hle:H.le H':=fun c z hc=> by
     rw[h4 c (fun b' jM=> by
      rw[hb] at jM;cases jM
      rintro rfl;rw[h6] at hc;cases hc)]
     exact hc
    refine⟨_,rfl,_,gR.more hle g'.LH (fun y hy=> ⟨h5 y hy,?_⟩),VS g' h1 h2⟩;rw[EJ,List.mem_singleton] at hy;subst hy;exact h6
end
end Go.RL
namespace Go.Proofs.YtldmfjcgjdchcaaGreatDoor
open Go.RL Go.Proofs.Tryz
set_option maxRecDepth 10000
set_option maxHeartbeats 16000000
def oC(H:View)(F:Option Addr)(n:Nat)(x:Nat->List UInt8):Prop:=
 n=0\/∃b o f gs gt gz,F=some ⟨b,o,none⟩/\H b=some (f,.cells ⟨gs⟩ gt gz)/\∀j:Nat,j<n->tE false 1 gs (o+(j:Int).toNat*1)=some (gA (x j))
theorem oC.le {H H':View}{F:Option Addr}{n:Nat}{x:Nat->List UInt8}(h:oC H F n x)(k:H.le H'):oC H' F n x:=
 h.imp id fun⟨b,o,f,gs,gt,gz,h1,h2,h3⟩=> ⟨b,o,f,gs,gt,gz,h1,k _ _ h2,h3⟩
def oE(x:Int):Bool:=decide (0<=x/\x<=99)
section
variable(M:Md prog)(H:View)
theorem QY(F:Option Addr)(n fc:Nat)(x:Nat->Int)(hF:pB H F n x)(hn:n<=1000000)(fv:Value)(p:Nat->Bool)(hp:∀j,j<n->∀H',H.le H'->yB M fv [.int .i64 (x j)] H' fun v H''=> H'.le H''/\v=.bool (p j)):
  bA M 187 #[.slice F n fc,fv] H (fun v H'=> H.le H'/\v=.int .i64 (fB (jA p n))):=by
 refine .en func187 ntmps187 fun St c cs hK=> ?_;refine PF ?_;refine Tc.db (Tc.sA (σ:= { j:Nat//j<=n/\jA p j=none }) (fun j=> ([(0,.slice F n fc),(1,fv),(7,.int .i64 (n:Nat)),(8,.int .i64 (j.1:Nat))],[])) (fun j=> n-j.1) ?_ ⟨0,Nat.zero_le _,rfl⟩);rintro⟨j,hj,dC⟩ ih;show Tc M St _ _ _ _ [(0,.slice F n fc),(1,fv),(7,.int .i64 (n:Nat)),(8,.int .i64 (j:Nat))] [] _ _;by_cases c1:j=n
 ·subst c1;rw[dC] at hK;refine qE ?_;refine .rt hK func187 results187 [_] ?_;exact okB
 ·have c2:j<n:=by omega
  obtain h0|⟨ab,ao,f,gs,gt,gz,rfl,hb,hl⟩:=hF
  ·omega
  have f1:=hl j c2;have eN:=hp j c2;cases lF:p j with
  | true=>
   rw[lF] at eN;have e:jA p n=some j:=TA (j:=j+1) (by simp[jA,dC,lF]) _ oM;rw[e] at hK;refine zP ?_;refine .c rfl rfl rfl rfl (fun H hs=> eN H hs.base) ?_;refine U7 ?_;refine .rt hK func187 results187 [_] ?_;exact okB
  | false=>
   rw[lF] at eN;refine zP ?_;refine .c rfl rfl rfl rfl (fun H hs=> eN H hs.base) ?_;refine U8 ?_;exact Tc.db (ih ⟨j+1,oM,by simp[jA,dC,lF]⟩ (by simp only;omega))
theorem ZR(F:Option Addr)(n fc:Nat)(x:Nat->Int)(hF:pB H F n x)(hn:n<=1000000)(fv:Value)(p:Nat->Bool)(hp:∀j,j<n->∀H',H.le H'->yB M fv [.int .i64 (x j)] H' fun v H''=> H'.le H''/\v=.bool (p j)):
  bA M 112 #[.slice F n fc,fv] H (fun v H'=> H.le H'/\v=.bool (jA p n).isSome):=by
 have hi:=fun(H':View) (h':H.le H')=> QY M H' F n fc x (hF.le h') hn fv p (fun j hj H'' h''=> hp j hj H'' (View.le_trans h' h''));cases hq:jA p n with
 | none=>
  rw[hq] at hi;have e:fB none= -1:=rfl;rw[e] at hi;refine .en func112 ntmps112 fun St c cs hK=> ?_;refine U8 ?_;refine .cl (fun H hs=> hi H hs.base) ?_;refine U3 ?_;refine .rt hK func112 results112 [_] ?_;exact okB
 | some j=>
  rw[hq] at hi;have e:fB (some j)=(j:Nat):=rfl;rw[e] at hi;refine .en func112 ntmps112 fun St c cs hK=> ?_;refine U8 ?_;refine .cl (fun H hs=> hi H hs.base) ?_;refine U3 ?_;refine .rt hK func112 results112 [_] ?_;exact okB
theorem SY(F:Option Addr)(n fc:Nat)(x:Nat->List UInt8)(hF:oC H F n x)(hn:n<=1000000)(fv:Value)(p:Nat->Bool)(hp:∀j,j<n->∀H',H.le H'->yB M fv [gA (x j)] H' fun v H''=> H'.le H''/\v=.bool (p j)):
  bA M 227 #[.slice F n fc,fv] H (fun v H'=> H.le H'/\v=.int .i64 (fB (jA p n))):=by
 refine .en func227 ntmps227 fun St c cs hK=> ?_;refine PF ?_;refine Tc.db (Tc.sA (σ:= { j:Nat//j<=n/\jA p j=none }) (fun j=> ([(0,.slice F n fc),(1,fv),(7,.int .i64 (n:Nat)),(8,.int .i64 (j.1:Nat))],[])) (fun j=> n-j.1) ?_ ⟨0,Nat.zero_le _,rfl⟩);rintro⟨j,hj,dC⟩ ih;show Tc M St _ _ _ _ [(0,.slice F n fc),(1,fv),(7,.int .i64 (n:Nat)),(8,.int .i64 (j:Nat))] [] _ _;by_cases c1:j=n
 ·subst c1;rw[dC] at hK;refine qE ?_;refine .rt hK func227 results227 [_] ?_;exact okB
 ·have c2:j<n:=by omega
  obtain h0|⟨ab,ao,f,gs,gt,gz,rfl,hb,hl⟩:=hF
  ·omega
  have f1:=hl j c2;have eN:=hp j c2;cases lF:p j with
  | true=>
   rw[lF] at eN;have e:jA p n=some j:=TA (j:=j+1) (by simp[jA,dC,lF]) _ oM;rw[e] at hK;refine zP ?_;refine .c rfl rfl rfl rfl (fun H hs=> eN H hs.base) ?_;refine U7 ?_;refine .rt hK func227 results227 [_] ?_;exact okB
  | false=>
   rw[lF] at eN;refine zP ?_;refine .c rfl rfl rfl rfl (fun H hs=> eN H hs.base) ?_;refine U8 ?_;exact Tc.db (ih ⟨j+1,oM,by simp[jA,dC,lF]⟩ (by simp only;omega))
theorem XL(F:Option Addr)(n fc:Nat)(x:Nat->List UInt8)(hF:oC H F n x)(hn:n<=1000000)(fv:Value)(p:Nat->Bool)(hp:∀j,j<n->∀H',H.le H'->yB M fv [gA (x j)] H' fun v H''=> H'.le H''/\v=.bool (p j)):
  bA M 144 #[.slice F n fc,fv] H (fun v H'=> H.le H'/\v=.bool (jA p n).isSome):=by
 have hi:=fun(H':View) (h':H.le H')=> SY M H' F n fc x (hF.le h') hn fv p (fun j hj H'' h''=> hp j hj H'' (View.le_trans h' h''));cases hq:jA p n with
 | none=>
  rw[hq] at hi;have e:fB none= -1:=rfl;rw[e] at hi;refine .en func144 ntmps144 fun St c cs hK=> ?_;refine U8 ?_;refine .cl (fun H hs=> hi H hs.base) ?_;refine U3 ?_;refine .rt hK func144 results144 [_] ?_;exact okB
 | some j=>
  rw[hq] at hi;have e:fB (some j)=(j:Nat):=rfl;rw[e] at hi;refine .en func144 ntmps144 fun St c cs hK=> ?_;refine U8 ?_;refine .cl (fun H hs=> hi H hs.base) ?_;refine U3 ?_;refine .rt hK func144 results144 [_] ?_;exact okB
theorem eU(x:Int):bA M 140 #[.int .i64 x] H (fun v H'=> H.le H'/\v=.bool (!oE x)):=by
 cases h:oE x with
 | true=>
  refine .en func140 ntmps140 fun St c cs hK=> ?_;refine U7 ?_;refine .cl (fun H hs=> uA M H x 0 99 true h) ?_;refine U3 ?_;refine .rt hK func140 results140 [_] ?_;exact okB
 | false=>
  refine .en func140 ntmps140 fun St c cs hK=> ?_;refine U7 ?_;refine .cl (fun H hs=> uA M H x 0 99 false h) ?_;refine U3 ?_;refine .rt hK func140 results140 [_] ?_;exact okB
theorem E2(s:List UInt8)(b:Nat)(f:Bool)(hb:H b=some (f,.cells ⟨[gA s]⟩ 9 (0,0)))(o:List UInt8):
  bA M 145 #[gA o,.pointer (some ⟨b,0,none⟩)] H (fun v H'=> H.le H'/\v=.bool (pC o s)):=by
 cases h1:NA o s with
 | true=>
  have e:pC o s=true:=by unfold pC;rw[h1];rfl
  rw[e];refine .en func145 ntmps145 fun St c cs hK=> ?_;refine U8 ?_;refine .cl (fun H hs=> oD M H o s true h1) ?_;refine U7 ?_;refine .rt hK func145 results145 [_] ?_;exact okB
 | false=>
  have e:pC o s=NA s o:=by unfold pC;rw[h1];rfl
  rw[e];refine .en func145 ntmps145 fun St c cs hK=> ?_;refine U8 ?_;refine .cl (fun H hs=> oD M H o s false h1) ?_;refine U3 ?_;refine .cl (fun H hs=> JE M H s o) ?_;refine U3 ?_;refine .rt hK func145 results145 [_] ?_;exact okB
end
end Go.Proofs.YtldmfjcgjdchcaaGreatDoor
