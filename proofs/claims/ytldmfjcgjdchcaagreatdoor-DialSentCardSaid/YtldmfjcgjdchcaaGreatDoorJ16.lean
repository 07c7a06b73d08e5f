/-
 Texts of the proofs over baudot/dial.
-/
import Derived.Test.YtldmfjcgjdchcaaGreatDoorJ15
namespace Go.Proofs.YtldmfjcgjdchcaaGreatDoor.Sg
open Go.RL Go.Proofs.Tryz
set_option maxRecDepth 10000
set_option maxHeartbeats 8000000
theorem kU {p:Nat->Prop} [DecidablePred p]:∀n:Nat,(∀i,i<n->p i)\/∃j,j<n/\(∀i,i<j->p i)/\¬p j
 | 0=> .inl fun i h=> absurd h (Nat.not_lt_zero i)
 | n + 1 => by
  rcases kU n (p:=p) with h|⟨j,h1,h2,h3⟩
  ·by_cases hn:p n
   ·exact .inl fun i hi=> by
     rcases Nat.lt_succ_iff_lt_or_eq.1 hi with h'|rfl
     ·exact h i h'
     ·exact hn
   ·exact .inr ⟨n,Nat.lt_succ_self n,h,hn⟩
  ·exact .inr ⟨j,oM,h2,h3⟩
section
variable(M:Md prog)(H:View)
end
theorem MG.times {H:View}{A:Option Addr}{l:List Int}(h:MG H A l)(uB:l≠ []):KJ H A l:=by
 rcases h with h|⟨ab,ao,f,gs,gt,gz,h1,h2,h3⟩
 ·exact(uB h).elim
 ·have hg:∀j,j<l.length->gs[ao+j]? =some (.int .i64 (l[j]?.getD 0)):=fun j hj=> by
   have:=h3 j hj;rw[Int.toNat_natCast,Nat.mul_one] at this;exact this
  have hlen:ao+l.length<=gs.length:=by
   have hp:0<l.length:=List.length_pos_iff.2 uB;have:=hg (l.length-1) oM;have:=(List.getElem?_eq_some_iff.1 this).1;omega
  refine⟨ab,ao,f,gs,gt,gz,h1,h2,oM,?_⟩;rw[Nat.mul_one];apply List.ext_getElem?
  intro j;by_cases hj:j<l.length
  ·rw[List.getElem?_take_of_lt hj,List.getElem?_drop,hg j hj];unfold jA;rw[List.getElem?_map,List.getElem?_eq_getElem hj];rfl
  ·rw[List.getElem?_eq_none (by rw[List.length_take];omega),List.getElem?_eq_none (by rw[uA];omega)]
section
variable(M:Md prog)(H:View)
theorem L7(l:List Int)(A:Option Addr)(n ca:Nat)(hn:n=l.length)(h6:n<=20)(hA:MG H A l)(j:Nat)(hj:j<n)(hb:∀i,i<j-> -999<=l[i]?.getD 0/\l[i]?.getD 0<=999)(hx:¬(-999<=l[j]?.getD 0/\l[j]?.getD 0<=999)):
  aA M 64 #[.slice A n ca] H (fun v H'=> H.le H'/\v=.tuple ⟨[UK [0,0,0,0,0,0],.int .i64 1]⟩):=by
 refine .en func64 ntmps64 fun St c cs hK=> ?_;refine U2 ?_;refine .al fun b2=> ?_;refine U4 ?_;refine .al fun b4=> ?_;refine U9 ?_;refine Tc.db (Tc.sA (σ:= { i:Nat//i<=j }) (fun i=> ([(2,.pointer (some ⟨b2,0,none⟩)),(4,.pointer (some ⟨b4,0,none⟩)),(7,.slice A n ca),(8,.int .i64 (n:Nat)),(9,.int .i64 (i.1:Nat))],
  [(b4,true,.cells ⟨[.int .i64 0,.int .i64 0,.int .i64 0,.int .i64 0,.int .i64 0,.int .i64 0]⟩ 139 (0,0)),(b2,true,.cells ⟨[.int .i64 0,.int .i64 0,.int .i64 0,.int .i64 0,.int .i64 0,.int .i64 0]⟩ 139 (0,0))])) (fun i=> j-i.1) ?_ ⟨0,Nat.zero_le _⟩)
 rintro⟨i,hi⟩ ih;show Tc M St _ _ _ _ [(2,.pointer (some ⟨b2,0,none⟩)),(4,.pointer (some ⟨b4,0,none⟩)),(7,.slice A n ca),(8,.int .i64 (n:Nat)),(9,.int .i64 (i:Nat))]
  [(b4,true,.cells ⟨[.int .i64 0,.int .i64 0,.int .i64 0,.int .i64 0,.int .i64 0,.int .i64 0]⟩ 139 (0,0)),(b2,true,.cells ⟨[.int .i64 0,.int .i64 0,.int .i64 0,.int .i64 0,.int .i64 0,.int .i64 0]⟩ 139 (0,0))] _ _
 have c2:i<n:=by omega
 rcases hA with hA|⟨a1,a2,a3,a4,a5,a6,rfl,a7,a8⟩
 ·rw[hA] at hn;simp at hn;omega
 have f1:=a8 i oM;by_cases c1:i=j
 ·subst c1;by_cases c3:l[i]?.getD 0 < -999
  ·refine U31 ?_;refine .rt hK func64 results64 [_,_] ?_;exact okB
  ·refine U31 ?_;refine .rt hK func64 results64 [_,_] ?_;exact okB
 ·have f2:=hb i oM;refine U31 ?_;exact Tc.db (ih ⟨i+1,oM⟩ (by simp only;omega))
end
def Far(l:List Int):Prop:=∃j,j<l.length/\(∀i,i<j-> -999<=l[i]?.getD 0/\l[i]?.getD 0<=999)/\¬(-999<=l[j]?.getD 0/\l[j]?.getD 0<=999)
theorem Far.or(l:List Int):Far l\/∀x∈l, -999<=x/\x<=999:=by
 rcases kU (p:=fun i=> -999<=l[i]?.getD 0/\l[i]?.getD 0<=999) l.length with h|⟨j,g1,g2,g3⟩
 ·refine .inr fun m hm=> ?_;obtain⟨i,hi,rfl⟩:=List.getElem_of_mem hm;have:=h i hi;rw[List.getElem?_eq_getElem hi] at this;exact this
 ·exact .inl ⟨j,g1,g2,g3⟩
inductive W2(k:Lk):Int->List Int->Int->Prop
 | bad {co:Int} {l:List Int}:Bad k co->W2 k co l 1
 | aBp {co:Nat} {l:List Int}:k.ok=true->co<32->l.length≠(gA co 7).length->W2 k co l 2
 | aBi {co:Nat} {l:List Int}:k.ok=true->co<32->l.length=(gA co 7).length->Far l->W2 k co l 1
 | conflict {co:Nat} {l:List Int}:k.ok=true->co<32->l.length=(gA co 7).length->(∀x∈l, -999<=x/\x<=999)->k.cN (gA co 7) (XE l)=none->W2 k co l 10
def NT(k:Lk)(co:Int)(l:List Int)(a b e:Int):Prop:=
 W2 k co l e/\a=0/\b=0\/k.ok=true/\∃code:Nat,co=(code:Int)/\code<32/\l.length=(gA code 7).length/\(∀x∈l, -999<=x/\x<=999)/\k.cN (gA code 7) (XE l)=some (a,b)/\e=0
theorem NT.some(k:Lk)(co:Int)(l:List Int):∃a b e,NT k co l a b e:=by
 by_cases hb:Bad k co
 ·exact⟨0,0,1,.inl ⟨.bad hb,rfl,rfl⟩⟩
 ·have hk:k.ok=true:=by
   cases h:k.ok with
   | true=> rfl
   | false=> exact(hb (.inl h)).elim
  have hcr:0<=co/\co<=31:=Classical.byContradiction fun h=> hb (.inr h);obtain⟨code,rfl⟩:∃n:Nat,co=(n:Int):=⟨co.toNat,oM⟩
  have hc:code<32:=by omega
  by_cases h1:l.length=(gA code 7).length
  ·rcases Far.or l with h2|h2
   ·exact⟨0,0,1,.inl ⟨.aBi hk hc h1 h2,rfl,rfl⟩⟩
   ·cases h3:k.cN (gA code 7) (XE l) with
    | none=> exact⟨0,0,10,.inl ⟨.conflict hk hc h1 h2 h3,rfl,rfl⟩⟩
    | some ab=> exact⟨ab.1,ab.2,0,.inr ⟨hk,code,rfl,hc,h1,h2,h3,rfl⟩⟩
  ·exact⟨0,0,2,.inl ⟨.aBp hk hc h1,rfl,rfl⟩⟩
theorem bZ {l:List Int}{code:Nat}(hc:code<32)(h:l.length=(gA code 7).length)(hb:∀x∈l, -999<=x/\x<=999):Told l:=by
 obtain⟨hp0,vQ,_⟩:=OE code hc;exact⟨oM,fun e=> by rw[e] at h;simp at h;omega,hb⟩
section
variable(M:Md prog)(H:View)
theorem o9(k:Lk)(co:Int)(hG:HC H)(h:Bad k co)(A:Option Addr)(n ca:Nat):aA M 18 #[k.val,.int .i64 co,.slice A n ca] H (fun v H'=> H.le H'/\v=.tuple ⟨[YB 0 0,.int .i64 1]⟩):=by
 refine .en func18 ntmps18 fun St c cs hK=> ?_;refine U2 ?_;refine .bo fun b3=> ?_;refine .al fun b6=> ?_;refine U6 ?_;refine .cl (fun H hs=> aAw M H k co (EA hG hs.base) h.no) ?_;refine U4 ?_;refine .al fun b8=> ?_;refine .al fun b9=> ?_;refine hY ?_;refine .rt hK func18 results18 [_,_] ?_;exact fun H2 hs=> ⟨hs.base,rfl⟩
theorem Y2(k:Lk)(code:Nat)(hG:HC H)(hk:k.ok=true)(hc:code<32)(l:List Int)(A:Option Addr)(n ca:Nat)(hn:n=l.length)(hlen:l.length=(gA code 7).length)(hA:MG H A l)(hf:Far l):aA M 18 #[k.val,.int .i64 code,.slice A n ca] H (fun v H'=> H.le H'/\v=.tuple ⟨[YB 0 0,.int .i64 1]⟩):=by
 obtain⟨j,g1,g2,g3⟩:=hf;have vQ:=(OE code hc).2.1;refine .en func18 ntmps18 fun St c cs hK=> ?_;refine U2 ?_;refine .bo fun b3=> ?_;refine .al fun b6=> ?_;refine U6 ?_;refine .e (Or.SB (fun x=> .tuple ⟨[k.val,VU code x,.int .i64 0]⟩) (wQ code) (fun x=> (gA code 7).length<=x.2.1) rfl rfl rfl rfl rfl dE (VH code) (fun H hs=> .h (BX M H k code (EA hG hs.base) hk hc)) (fun x hx=> ?_));refine U4 ?_;refine .al fun b8=> ?_;refine .al fun b9=> ?_;refine U27 ?_;refine .cl (fun H hs=> L7 M H l A n ca hn oM (hA.le hs.base) j oM g2 g3) ?_;refine U3 ?_;refine .al fun b11=> ?_;refine BI ?_;refine .rt hK func18 results18 [_,_] ?_;exact fun H2 hs=> ⟨hs.base,rfl⟩
theorem PT(k:Lk)(co:Int)(l:List Int)(a b e:Int)(h:NT k co l a b e)(hG:HC H)(A:Option Addr)(n ca:Nat)(hn:n=l.length)(hA:MG H A l):aA M 18 #[k.val,.int .i64 co,.slice A n ca] H (fun v H'=> H.le H'/\v=.tuple ⟨[YB a b,.int .i64 e]⟩):=by
 rcases h with ⟨h,rfl,rfl⟩|⟨hk,code,rfl,hc,h1,h2,h3,rfl⟩
 ·cases h with
  | bad h=> exact o9 M H k co hG h A n ca
  | @aBp code _ hk hc h1=> exact oW M H k code hG hk hc A n ca oM
  | @aBi code _ hk hc h1 h2=> exact Y2 M H k code hG hk hc l A n ca hn h1 hA h2
  | @conflict code _ hk hc h1 h2 h3=>
   subst hn;have hT:=bZ hc h1 h2;have h9:=(ML code hc).2;exact aA.mono (X2 M H k code hG hk hc l hT oM h1 A ca (hA.times hT.pos)) (by rintro v H' ⟨g1,g2⟩;rw[h3] at g2;exact⟨g1,g2⟩)
 ·subst hn;have hT:=bZ hc h1 h2;have h9:=(ML code hc).2;exact aA.mono (X2 M H k code hG hk hc l hT oM h1 A ca (hA.times hT.pos)) (by rintro v H' ⟨g1,g2⟩;rw[h3] at g2;exact⟨g1,g2⟩)
def tX(k:Lk)(a b e:Int):Lk:=if e=0 then k.aAK a b else lk0
theorem NT.zero {k:Lk}{co:Int}{l:List Int}{a b e:Int}(h:NT k co l a b e)(he:e≠0):a=0/\b=0:=by
 rcases h with ⟨_,h1,h2⟩|⟨_,_,_,_,_,_,_,h⟩
 ·exact⟨h1,h2⟩
 ·exact(he h).elim
theorem jZ(k:Lk)(co:Int)(l:List Int)(a b e:Int)(h:NT k co l a b e)(hG:HC H)(A:Option Addr)(n ca:Nat)(hn:n=l.length)(hA:MG H A l):aA M 21 #[k.val,.int .i64 co,.slice A n ca] H (fun v H'=> H.le H'/\v=.tuple ⟨[(tX k a b e).val,.int .i64 e]⟩):=by
 by_cases he:e=0
 ·subst he;exact kZ M H k co a b A n ca fun H' h'=> PT M H' k co l a b 0 h (EA hG h') A n ca hn (hA.le h')
 ·obtain⟨rfl,rfl⟩:=h.zero he;unfold tX;rw[if_neg he];exact J2 M H k co e he A n ca fun H' h'=> PT M H' k co l 0 0 e h (EA hG h') A n ca hn (hA.le h')
end
end Go.Proofs.YtldmfjcgjdchcaaGreatDoor.Sg
namespace Go.Proofs.YtldmfjcgjdchcaaGreatDoor
open Go.RL Go.Proofs.Tryz
set_option maxRecDepth 10000
set_option maxHeartbeats 8000000
def TL(q:Sg.Lk)(c0:Nat->Nat)(i:Nat):List Int:=Sg.tB (q.MC (c0 i%32)) 32
section
variable(M:Md prog)(H:View)
theorem Y8(q:Sg.Lk)(hq:q.ok=true)(hC:Sg.HC H)(c:Nat)(hc:c<32):
  aA M 68 #[q.val,.int .i64 (c:Nat)] H (fun v H'=> H.le H'/\∃g:Gl 3 1,v=.tuple ⟨[g.val,.int .i64 (q.refused c),.int .i64 0]⟩/\g.l=Sg.jA (Sg.tB (q.MC c) 32)/\∀y∈g.bl,H' y.1=some y.2/\H y.1=none):=
 aA.mono (Sg.X8 M H q c hC hq hc) (by
  rintro v H' ⟨h1,g,h2,h3,h4⟩;rw[Sg.EL] at h3;exact⟨h1,g,h2,h3,h4⟩)
theorem o7(k:Bk)(A:Option Addr)(lc:Nat)(B:Option Addr)(tc:Nat)(F:Nat->Option Addr)(fc:Nat->Nat)(hB:VB H k A lc B tc F fc)(fJ:k.small)(hnm:∀i,i<k.nl->(k.name i).length<=1000000)(ha:k.VA=0)(q:Sg.Lk)(hq:q.ok=true)(hC:Sg.HC H)
  (C:Option Addr) (nc cc:Nat) (c0:Nat->Nat) (A8:OH H C nc c0):
  aA M 22 #[k.val A lc B tc,q.val,.slice C nc cc] H (fun v H'=> H.le H'/\((∃i,i<k.nt/\i<nc/\TL q c0 i= [])/\v=.tuple ⟨[k.val A lc B tc,.bool false]⟩\/ 
   (∀i,i<k.nt->i<nc->TL q c0 i≠ [])/\∃B' tc',v=.tuple ⟨[(k.SF (TL q c0) (min k.nt nc)).val A lc B' tc',.bool true]⟩/\GD H' (k.SF (TL q c0) (min k.nt nc)) A lc B' tc')):=by
 obtain⟨_,_,aG8,_⟩:=Bk.valid ha;have hk:=hB.bk;generalize dP:TL q c0=rd;have aB9:∀i,rd i=Sg.tB (q.MC (c0 i%32)) 32:=fun i=> by rw[<-dP];rfl
 have aGi:∀i,rd i≠ []->1<=OG (rd i)/\OG (rd i)<=oH (rd i)/\oH (rd i)<=3:=fun i h=> by rw[aB9 i] at h ⊢;exact T6 h
 refine .en func22 ntmps22 fun St c cs hK=> ?_;refine U2 ?_;refine .bo fun b3=> ?_;refine .bo fun b4=> ?_;refine .al fun b6=> ?_;refine U5 ?_;refine .al fun b8=> ?_;refine U4 ?_;refine .e (.bs (zz:=fun be=> ?_));refine U2 ?_;refine .e (Or.rW (E:=en) (g:=Gl.emp 39 4 be) (m:=k.nt) (new:=QA k.nt (PA k)) (yv:=.slice B k.nt tc) 0 (fun Bb=> Bb++[(b8,true,.cells ⟨(k.val A lc B tc).cells.toList⟩ 45 (0,0)),(b6,true,.cells ⟨[.int .i64 0,.int .i64 0,.slice none 0 0,.slice none 0 0]⟩ 45 (0,0)),(b4,true,.cells ⟨q.val.cells.toList⟩ 49 (0,0)),(b3,true,.cells ⟨(k.val A lc B tc).cells.toList⟩ 45 (0,0))]) (aCg _) rfl rfl rfl rfl rfl rfl rfl rfl rfl rfl rfl rfl rfl rfl rfl (fun H hs=> hB.UD.mono hs.base) (dG (AK k) _) (by show 0+_<=_;omega) rfl dE (fun g2 aW xN=> ?_));obtain⟨gb,gn,gc,gl,gj,q1,q2,q3,q4⟩:=g2;simp only[Gl.emp,Nat.zero_add,List.nil_append] at aW xN;subst aW xN;cases gb with
 | none=>
  have hg:=q4 rfl;have IZ:k.nt=0:=by omega
  subst hg;have v8:∀H':View,H.le H'->GD H' (k.SF rd (min k.nt nc)) A lc none 0:=fun H' hle=> ⟨(hk.le hle).rows,q2,.inl IZ⟩
  have uK:(k.SF rd (min k.nt nc)).VA=0:=TM ha (fun i hi=> by omega);have KZ:=fun(H':View) (h:GD H' (k.SF rd (min k.nt nc)) A lc none 0)=> dW (PD M H' (k.SF rd (min k.nt nc)) A lc none 0 h ⟨fJ.nl,fJ.nt,fJ.num⟩ hnm) (w':=.int .i64 0) (by rw[uK]);show To M St _ _ _ _ _ ((17,.slice none k.nt 0)::_) _ _ _ _;refine U7 ?_;refine .done (.block (.loop (.seq (.sr ?_))));refine kN ?_;refine Tc.dr [4] [1] mixed rfl ?_;refine .nn 0 ?_;refine .nw 1 ?_;refine .z 2 rfl (xA.tk fun H hs=> KZ H (v8 H hs.base)) ?_;refine .nw 3 ?_;refine .e 4 1 ?_;refine .nw 5 ?_;refine .dn ?_;refine .rt hK func22 results22 [_,_] ?_;exact fun H' hs=> ⟨hs.base,.inr ⟨fun i hi _=> by omega,none,0,rfl,v8 H' hs.base⟩⟩
 | some tb=>
  have e0:PA k=PA (k.SF rd 0):=rfl;show To M St _ _ _ _ _ ((17,.slice (some ⟨tb,0,none⟩) k.nt gc)::_) ((tb,true,.cells ⟨QA k.nt (PA (k.SF rd 0))++gj⟩ 39 (0,0))::_) _ _ _;refine U9 ?_;refine Tc.db (Tc.sA (σ:= { j:Nat//j<=k.nt/\j<=nc/\∀i,i<j->rd i≠ [] }) (fun j=> ([(2,.slice C nc cc),(3,.pointer (some ⟨b3,0,none⟩)),(4,.pointer (some ⟨b4,0,none⟩)),(6,.pointer (some ⟨b6,0,none⟩)),(7,.bool false),(8,.pointer (some ⟨b8,0,none⟩)),(9,.int .i64 (j.1:Nat))],
   [(tb,true,.cells ⟨QA k.nt (PA (k.SF rd j.1))++gj⟩ 39 (0,0)),(b8,true,.cells ⟨[.int .i64 k.MF,.int .i64 k.lD,.slice A k.nl lc,.slice (some ⟨tb,0,none⟩) k.nt gc]⟩ 45 (0,0)),(b6,true,.cells ⟨[.int .i64 0,.int .i64 0,.slice none 0 0,.slice none 0 0]⟩ 45 (0,0)),(b4,true,.cells ⟨q.val.cells.toList⟩ 49 (0,0)),(b3,true,.cells ⟨(k.val A lc B tc).cells.toList⟩ 45 (0,0))])) (fun j=> k.nt-j.1) ?_ ⟨0,Nat.zero_le _,Nat.zero_le _,fun i hi=> by omega⟩)
  rintro⟨j,hj1,hj2,hj3⟩ ih;show Tc M St _ _ _ _ [(2,.slice C nc cc),(3,.pointer (some ⟨b3,0,none⟩)),(4,.pointer (some ⟨b4,0,none⟩)),(6,.pointer (some ⟨b6,0,none⟩)),(7,.bool false),(8,.pointer (some ⟨b8,0,none⟩)),(9,.int .i64 (j:Nat))]
   [(tb,true,.cells ⟨QA k.nt (PA (k.SF rd j))++gj⟩ 39 (0,0)),(b8,true,.cells ⟨[.int .i64 k.MF,.int .i64 k.lD,.slice A k.nl lc,.slice (some ⟨tb,0,none⟩) k.nt gc]⟩ 45 (0,0)),(b6,true,.cells ⟨[.int .i64 0,.int .i64 0,.slice none 0 0,.slice none 0 0]⟩ 45 (0,0)),(b4,true,.cells ⟨q.val.cells.toList⟩ 49 (0,0)),(b3,true,.cells ⟨(k.val A lc B tc).cells.toList⟩ 45 (0,0))] _ _
  have BU:j=min k.nt nc->(∀H':View,H.le H'->H' tb=some (true,.cells ⟨QA k.nt (PA (k.SF rd j))++gj⟩ 39 (0,0))->GD H' (k.SF rd j) A lc (some ⟨tb,0,none⟩) gc)/\(k.SF rd j).VA=0:=fun _=>
   ⟨fun H' hle hc=> ⟨(hk.le hle).rows,A1 (k:=k.SF rd j) q2 hc⟩,TM ha (fun i hi=> aGi i (hj3 i hi))⟩
  by_cases c1:j<k.nt
  ·by_cases c2:j<nc
   ·obtain IZ|⟨ab,ao,f,gs,gt,gz,rfl,hb,bR⟩:=A8
    ·omega
    obtain⟨f1,aGL⟩:=bR j c2;obtain⟨z,hz⟩:∃z,z=c0 j%32:=⟨_,rfl⟩
    have aGv:z<32:=by omega
    have r1:rA .rem .u8 ((c0 j:Nat):Int) 32=some (.int .u8 ((z:Nat):Int)):=by rw[rem_in oM oM];congr 2;omega
    have w1:IntKind.i64.wrap ((z:Nat):Int)=((z:Nat):Int):=wrap64 oM oM;have hrj:rd j=Sg.tB (q.MC z) 32:=by rw[aB9 j,hz]
    have hlen:(rd j).length<=32:=by rw[hrj];exact Sg.LM _ _
    have aGl:∀x∈rd j,0<=x/\x<=31:=fun x hx=> by rw[hrj] at hx;exact mP hx
    have C5:∀H',H.le H'->aA M 68 #[q.val,.int .i64 (z:Nat)] H' (fun v H''=> H'.le H''/\∃g:Gl 3 1,v=.tuple ⟨[g.val,.int .i64 (q.refused z),.int .i64 0]⟩/\g.l=Sg.jA (rd j)/\∀y∈g.bl,H'' y.1=some y.2/\H' y.1=none):=fun H' h=> by
     rw[hrj];exact Y8 M H' q hq (Sg.EA hC h) z aGv
    have aFY:∀(H':View) (X:Option Addr) (n xc:Nat),n=(rd j).length->Sg.MG H' X (rd j)->aA M 69 #[.slice X n xc,.int .i64 32] H' (fun v H''=> H'.le H''/\v=.int .i64 0):=fun H' X n xc h1 h2=> by
     rw[hrj] at h1 h2;exact Sg.AT M H' X (q.MC z) 32 n xc dE h1 h2
    have eC:=aCy k rd c1 gj;have f3:Nat.ble (0+((j:Nat):Int).toNat*4+0+2) (QA k.nt (PA (k.SF rd j))++gj).length=true:=by
     refine Nat.ble_eq_true_of_le ?_;rw[List.length_append,wC (f:=PA (k.SF rd j)) (sz:=4) (fun _=> rfl),Int.toNat_natCast];omega
    have hih:=fun(h:rd j≠ [])=> ih ⟨j+1,oM,oM,fun i hi=> by
     by_cases e:i=j
     ·rw[e];exact h
     ·exact hj3 i oM⟩ (by simp only;omega)
    clear ih BU hrj aB9 hz bR;refine QR ?_;refine Tc.dr [] [] mixed rfl ?_;refine V7 0 ?_;refine .ea 7 rfl (Or.SB (fun g:Gl 3 1=> .tuple ⟨[g.val,.int .i64 (q.refused z),.int .i64 0]⟩) Gl.bl (fun g=> g.l=Sg.jA (rd j)) rfl rfl rfl rfl rfl dE DH (fun H hs=> .h (C5 H hs.base)) (fun g hg=> ⟨S2.mk sL (.inr sL),?_⟩));refine V7 8 ?_;refine .dn ?_;refine U2 ?_;have iK:g.n=(rd j).length:=by
     have h1:=g.hl;rw[hg,Sg.uA] at h1;omega
    have aBd:∀H':View,(∀y∈g.bl,H' y.1=some y.2)->Sg.MG H' (g.blk.map fun b=> ⟨b,0,none⟩) (rd j):=fun H' h=> (Sg.MG.of hg h).2;by_cases c3:rd j= []
    ·have hg0:g.n=0:=by rw[iK,c3];rfl
     refine lO ?_;refine .rt hK func22 results22 [_,_] ?_;exact fun H' hs=> ⟨hs.base,.inl ⟨⟨j,c1,c2,c3⟩,rfl⟩⟩
    ·have hg0:0<g.n:=by rw[iK];exact List.length_pos_iff.2 c3
     have hpc:=fun(H':View) (h:Sg.MG H' (g.blk.map fun b=> ⟨b,0,none⟩) (rd j))=> aAE M H' (g.blk.map fun b=> ⟨b,0,none⟩) (rd j) g.n g.cap iK hg0 oM h aGl;refine UC ?_;refine .cl (fun H hs=> aFY H _ g.n g.cap iK (aBd H (fun y hy=> hs.at_ y (by simp[hy])))) ?_;refine U5 ?_;refine Tc.dr [7] [0] mixed rfl ?_;refine V4 0 ?_;refine .z 4 rfl (xA.tk fun H hs=> hpc H (aBd H (fun y hy=> hs.at_ y (by simp[hy])))) ?_;refine .nw 5 ?_;refine .nn 6 ?_;refine .e 7 0 ?_;refine .dn ?_;refine U6 ?_;exact Tc.db (hih c3)
   ·obtain⟨v8,uK⟩:=BU oM;obtain rfl:j=min k.nt nc:=by omega
    have KZ:=fun(H':View) (h:GD H' (k.SF rd (min k.nt nc)) A lc (some ⟨tb,0,none⟩) gc)=> dW (PD M H' (k.SF rd (min k.nt nc)) A lc (some ⟨tb,0,none⟩) gc h ⟨fJ.nl,fJ.nt,fJ.num⟩ hnm) (w':=.int .i64 0) (by rw[uK]);clear ih BU;refine hY ?_;refine Tc.dr [4] [2] mixed rfl ?_;refine .nn 0 ?_;refine .nw 1 ?_;refine .z 2 rfl (xA.tk fun H hs=> KZ H (v8 H hs.base (hs.get (i:=0) rfl))) ?_;refine .nw 3 ?_;refine .e 4 2 ?_;refine .nw 5 ?_;refine .dn ?_;refine .rt hK func22 results22 [_,_] ?_;exact fun H' hs=> ⟨hs.base,.inr ⟨fun i h1 h2=> hj3 i oM,some ⟨tb,0,none⟩,gc,rfl,v8 H' hs.base (hs.get (i:=0) rfl)⟩⟩
  ·obtain⟨v8,uK⟩:=BU oM;obtain rfl:j=min k.nt nc:=by omega
   have KZ:=fun(H':View) (h:GD H' (k.SF rd (min k.nt nc)) A lc (some ⟨tb,0,none⟩) gc)=> dW (PD M H' (k.SF rd (min k.nt nc)) A lc (some ⟨tb,0,none⟩) gc h ⟨fJ.nl,fJ.nt,fJ.num⟩ hnm) (w':=.int .i64 0) (by rw[uK]);clear ih BU;refine hY ?_;refine Tc.dr [4] [2] mixed rfl ?_;refine .nn 0 ?_;refine .nw 1 ?_;refine .z 2 rfl (xA.tk fun H hs=> KZ H (v8 H hs.base (hs.get (i:=0) rfl))) ?_;refine .nw 3 ?_;refine .e 4 2 ?_;refine .nw 5 ?_;refine .dn ?_;refine .rt hK func22 results22 [_,_] ?_;exact fun H' hs=> ⟨hs.base,.inr ⟨fun i h1 h2=> hj3 i oM,some ⟨tb,0,none⟩,gc,rfl,v8 H' hs.base (hs.get (i:=0) rfl)⟩⟩
end
end Go.Proofs.YtldmfjcgjdchcaaGreatDoor
namespace Go.RL
section
variable {P:Program}{M:Md P}{St:View->Goroutine->Prop}{n:Nat}{b:FB}{H₀:View}{cs:List Frame}{R:Rg}{L:Bl}{ds:List Deferred}{todo:List Item}
theorem Tc.aBz(A B:Bl)(p:(A++B).Perm L)(h:∀H₁:View,H₀.le H₁->(∀x∈B,H₁ x.1=some x.2)->Tc M St n b H₁ cs R A ds todo):Tc M St n b H₀ cs R L ds todo:=fun H tmps hs hr=> by
 obtain⟨H₂,h1,h2⟩:=(hs.perm p).VD;exact h H₂ h2.base h2.at_ H tmps h1 hr
end
end Go.RL
namespace Go.Proofs.YtldmfjcgjdchcaaGreatDoor
open Go.RL Go.Proofs.Tryz
set_option maxRecDepth 10000
set_option maxHeartbeats 16000000
theorem Y0 {k:Sg.Lk}{co:Int}{l:List Int}{a b:Int}(h:Sg.NT k co l a b 0):k.s0<=a/\a<=b/\b<=k.s1:=by
 rcases h with ⟨h,_,_⟩|⟨_,code,_,_,_,_,h,_⟩
 ·generalize he:(0:Int)=e at h;cases h <;> omega
 ·obtain⟨_,_,h1,h2,h3⟩:=Sg.Lk.aAV h;exact⟨h2,h1,h3⟩
theorem aAn {k:Sg.Lk}(h:k.ok=true):1<=k.s0/\k.s0<=k.s1/\k.s1<=40:=by
 rw[Sg.Lk.ok_eq] at h;simp only[Bool.and_eq_true] at h;obtain⟨⟨h4,_⟩,_⟩:=h;have h7:1<=k.s0/\k.s0<=k.s1/\k.s1<=40/\k.s1-k.s0<3:=of_decide_eq_true h4;omega
section
variable(H:View)
end
section
variable(H:View)
theorem aBv {St:View->Goroutine->Prop}{cs:List Frame}(hG:HC H)(hC:Sg.HC H)(k:Bk)(A:Option Addr)(lc:Nat)(B:Option Addr)(tc:Nat)(F:Nat->Option Addr)(fc:Nat->Nat)(hB:VB H k A lc B tc F fc)(q:Sg.Lk)(C:Option Addr)(nc cc:Nat)(c0:Nat->Nat)(A8:OH H C nc c0)(p:Int)(hp:0<=p/\p<256)(X:Option Addr)(l:List Int)(n xc:Nat)(hn:n=l.length)(hX:Sg.R2 H X l)
  (hR:∀(H₀:View) (R:Rg) (L:Bl) (kk:List Item),lk R 10=some (.bool true)->H.le H₀->Tc (Mp prog) St 86 ⟨5,.normal,none⟩ H₀ cs R L [] (.code .ret::kk)):
  Tc (Mp prog) St 86 ⟨5,.normal,none⟩ H cs (FO [k.val A lc B tc,q.val,.slice C nc cc,.int .u8 p,.slice X n xc]) [] [] [.code (uM Tryz.f5)]:=by
 have hk:=hB.bk;have IK:=fun(H':View) (h:H.le H')=> aAm H' (EA hG h);have EY:=fun(H':View) (h:H.le H') (t:Bool) (ht:k.fit=t)=> W1 (Mp prog) H' k A lc B tc (hk.le h) t ht;have aB4:=fun(H':View) (t:Bool) (ht:q.ok=t)=> dW (Sg.W1 (Mp prog) H' q) (w':=.bool t) (by rw[ht]);obtain⟨qo,hq⟩:∃qo,q.ok=qo:=⟨_,rfl⟩
 cases gK:k.fit with
 | false=>
  refine U2 ?_;refine .bo fun b5=> ?_;refine .bo fun b6=> ?_;refine U6 ?_;refine .cl (fun H hs=> EY H hs.base false gK) ?_;refine kN ?_;refine .cl (fun H hs=> IK H hs.base) ?_;refine U2 ?_;exact hR _ _ _ _ rfl (View.le_refl _)
 | true=>
  cases qo with
  | false=>
   refine U2 ?_;refine .bo fun b5=> ?_;refine .bo fun b6=> ?_;refine U6 ?_;refine .cl (fun H hs=> EY H hs.base true gK) ?_;refine U3 ?_;refine .cl (fun H hs=> aB4 H false hq) ?_;refine YD ?_;refine .cl (fun H hs=> IK H hs.base) ?_;refine U2 ?_;exact hR _ _ _ _ rfl (View.le_refl _)
  | true=>
  by_cases h20:20<n
  ·refine U2 ?_;refine .bo fun b5=> ?_;refine .bo fun b6=> ?_;refine U6 ?_;refine .cl (fun H hs=> EY H hs.base true gK) ?_;refine U3 ?_;refine .cl (fun H hs=> aB4 H true hq) ?_;refine YD ?_;refine .cl (fun H hs=> IK H hs.base) ?_;refine U2 ?_;exact hR _ _ _ _ rfl (View.le_refl _)
  obtain⟨hgr,uK⟩:k.EH=false/\k.VA=0:=by
   unfold Bk.fit at gK;rw[Bool.and_eq_true] at gK;exact⟨by simpa using gK.1,of_decide_eq_true gK.2⟩
  have fJ:k.small:=Bk.tH hgr;have hnm:∀i,i<k.nl->(k.name i).length<=1000000:=fun i hi=> by have:=(Bk.zO hgr).2.2 i hi;omega
  obtain⟨aGb,hX⟩:=hX;have hsd:=aAn hq;refine U2 ?_;refine .bo fun b5=> ?_;refine .bo fun b6=> ?_;refine U6 ?_;refine .cl (fun H hs=> EY H hs.base true gK) ?_;refine U3 ?_;refine .cl (fun H hs=> aB4 H true hq) ?_;refine QR ?_;refine Tc.db (Tc.sA (σ:= { x:Nat×Gl 3 1//x.1<=n/\x.2.n=x.1/\x.2.l=Sg.jA (l.take x.1) }) (fun x=> ([(2,.slice C nc cc),(3,.int .u8 p),(4,.slice X n xc),(5,.pointer (some ⟨b5,0,none⟩)),(6,.pointer (some ⟨b6,0,none⟩)),(11,x.1.2.val),(12,.int .i64 (x.1.1:Nat))],
   (b6,true,.cells ⟨q.val.cells.toList⟩ 49 (0,0))::(b5,true,.cells ⟨(k.val A lc B tc).cells.toList⟩ 45 (0,0))::x.1.2.bl)) (fun x=> n-x.1.1) ?_ ⟨(0,Gl.nil 3 1),Nat.zero_le _,rfl,rfl⟩)
  rintro⟨⟨i,g⟩,hi,iK,FY⟩ ih;simp only at hi iK FY;show Tc (Mp prog) St _ _ _ _ [(2,.slice C nc cc),(3,.int .u8 p),(4,.slice X n xc),(5,.pointer (some ⟨b5,0,none⟩)),(6,.pointer (some ⟨b6,0,none⟩)),(11,g.val),(12,.int .i64 (i:Nat))]
   ((b6,true,.cells ⟨q.val.cells.toList⟩ 49 (0,0))::(b5,true,.cells ⟨(k.val A lc B tc).cells.toList⟩ 45 (0,0))::g.bl) _ _
  by_cases c1:i<n
  ·obtain IZ|⟨ab,ao,f,gs,gt,gz,rfl,hb,bR⟩:=hX
   ·rw[IZ] at hn;simp only[List.length_nil] at hn;omega
   have f1:=bR i oM;have hx:=aGb (l[i]?.getD 0) (by rw[List.getElem?_eq_getElem oM];exact List.getElem_mem _);have hsn:Sg.jA (l.take (i+1))=Sg.jA (l.take i)++[.int .i64 (l[i]?.getD 0)]:=by
    rw[List.getElem?_eq_getElem oM,List.take_succ_eq_append_getElem oM];unfold Sg.jA;rw[List.map_append];rfl
   have hih:∀(g':Gl 3 1) (h1:g'.n=i+1) (h2:g'.l=Sg.jA (l.take i)++[.int .i64 (l[i]?.getD 0)]),_:=fun g' h1 h2=> ih ⟨(i+1,g'),by simp only;omega,h1,h2.trans hsn.symm⟩ (by simp only;omega);clear ih;generalize l[i]?.getD 0=x at f1 hx hsn hih;have w1:IntKind.i64.wrap x=x:=wrap64 oM oM;refine PR ?_;refine .e (.bs (zz:=fun bs=> ?_));refine .e (Or.append (E:=en) 3 rfl rfl rfl rfl rfl rfl rfl rfl rfl rfl rfl rfl rfl rfl rfl (fun H hs=> UA.of (hs.get (i:=0) rfl) (Nat.le_of_ble_eq_true rfl)) rfl oM rfl dE (fun g2 aW xN=> ?_));refine U8 ?_;exact Tc.db (hih g2 (by rw[aW,iK]) (by rw[xN,FY];rfl))
  ·have c4:i=n:=by omega
   clear ih;subst c4;rw[hn,List.take_length] at FY;obtain⟨a,b,e,hT⟩:=Sg.NT.some q (p%32) l;have hr1:rA .rem .u8 p 32=some (.int .u8 (p%32)):=rem_in oM oM;have w2:IntKind.i64.wrap (p%32)=p%32:=wrap64 oM oM;obtain⟨o,ho⟩:∃o,Sg.tX q a b e=o:=⟨_,rfl⟩
   have aBW:=fun(H':View) (h:H.le H') (X:Option Addr) (m xc:Nat) (h1:m=l.length) (h2:Sg.MG H' X l)=> Sg.jZ (Mp prog) H' q (p%32) l a b e hT (Sg.EA hC h) X m xc h1 h2;rw[ho] at aBW;refine YD ?_;refine Tc.aBz [(b6,true,.cells ⟨q.val.cells.toList⟩ 49 (0,0)),(b5,true,.cells ⟨(k.val A lc B tc).cells.toList⟩ 45 (0,0))] g.bl (List.Perm.refl _) (fun H₁ XC hgb=> ?_);obtain⟨aAd,aEp⟩:=Sg.MG.of FY hgb;refine U6 ?_;refine .cl (fun H hs=> aBW H (View.le_trans XC hs.base) _ g.n g.cap aAd (aEp.le hs.base)) ?_;refine U3 ?_;refine .al fun b13=> ?_;refine U5 ?_;by_cases he:e=0
   ·subst he;have pI:=Y0 hT;have hoe:o=q.aAK a b:=by rw[<-ho];exact if_pos rfl
    have dC:o.ok=true:=by rw[hoe];exact Sg.Lk.aAv hq pI.1 pI.2.1 pI.2.2
    have hwi:o.RR q:=by
     rw[hoe];exact⟨⟨pI.1,pI.2.2⟩,⟨Int.le_refl _,Int.le_refl _⟩,⟨Int.le_refl _,Int.le_refl _⟩,⟨Int.le_refl _,Int.le_refl _⟩⟩
    have JU:(∀i,i<k.nt->i<nc->TL o c0 i≠ [])->(k.SF (TL o c0) (min k.nt nc)).KR (k.SF (TL q c0) (min k.nt nc)):=fun h=> W6 k fun i hi=> aAD (fun j hj hr=> Sg.Lk.JO dC hq hwi oM hr) (h i oM oM);have aEq:∀z:Sg.Lk,(∀i,i<k.nt->i<nc->TL z c0 i≠ [])->(k.SF (TL z c0) (min k.nt nc)).VA=0:=fun z h=> TM uK fun i hi=> T6 (h i oM oM);clear aBW;refine YD ?_;refine To.sB rfl rfl rfl rfl rfl rfl dE (CB.h (o7 (Mp prog) H₁ k A lc B tc F fc (hB.le XC) fJ hnm uK q hq (Sg.EA hC XC) C nc cc c0 (A8.le XC))) (fun v H₂ hv=> ?_);obtain⟨cJ,hv⟩:=hv;have GU:=View.le_trans XC cJ;have I5:=o7 (Mp prog) H₂ k A lc B tc F fc (hB.le GU) fJ hnm uK o dC (Sg.EA hC GU) C nc cc c0 (A8.le GU);rcases hv with ⟨_,rfl⟩|⟨uB,B2,tc2,rfl,EU⟩
    ·refine U3 ?_;refine .al fun b15=> ?_;refine U8 ?_;refine To.sB rfl rfl rfl rfl rfl rfl dE (CB.h I5) (fun v H₃ hv=> ?_);obtain⟨kK,hv⟩:=hv;have yN:=View.le_trans GU kK;rcases hv with ⟨_,rfl⟩|⟨aBZ,B3,tc3,rfl,hk3⟩
     all_goals
      refine U3 ?_;refine .al fun b17=> ?_;refine lN ?_;refine .cl (fun H hs=> IK H (View.le_trans yN hs.base)) ?_;refine U2 ?_;exact hR _ _ _ _ rfl yN
    ·refine U3 ?_;refine .al fun b15=> ?_;refine U8 ?_;refine To.sB rfl rfl rfl rfl rfl rfl dE (CB.h I5) (fun v H₃ hv=> ?_);obtain⟨kK,hv⟩:=hv;have yN:=View.le_trans GU kK;rcases hv with ⟨_,rfl⟩|⟨aBZ,B3,tc3,rfl,hk3⟩
     ·refine U3 ?_;refine .al fun b17=> ?_;refine lN ?_;refine .cl (fun H hs=> IK H (View.le_trans yN hs.base)) ?_;refine U2 ?_;exact hR _ _ _ _ rfl yN
     ·have hls:=JU aBZ;have ha1:=aEq q uB;have ha2:=aEq o aBZ;have aGn:(k.SF (TL q c0) (min k.nt nc)).small:=⟨fJ.nl,fJ.nt,fJ.num⟩
      have aGo:(k.SF (TL o c0) (min k.nt nc)).small:=⟨fJ.nl,fJ.nt,fJ.num⟩
      generalize k.SF (TL q c0) (min k.nt nc)=k1 at *;generalize k.SF (TL o c0) (min k.nt nc)=k2 at *;refine U3 ?_;refine .al fun b17=> ?_;refine PR ?_;refine .cl (fun H hs=> Z9 (Mp prog) H k1 A lc B2 tc2 (EU.le (View.le_trans kK hs.base)) aGn ha1 k2 A lc B3 tc3 (hk3.le hs.base) aGo ha2 (EA hG (View.le_trans yN hs.base)) hls) ?_;refine U ?_;refine .cl (fun H hs=> IK H (View.le_trans yN hs.base)) ?_;refine U3 ?_;exact hR _ _ _ _ rfl yN
   ·refine U7 ?_;refine .cl (fun H hs=> IK H (View.le_trans XC hs.base)) ?_;refine U2 ?_;exact hR _ _ _ _ rfl XC
end
end Go.Proofs.YtldmfjcgjdchcaaGreatDoor
