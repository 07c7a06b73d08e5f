/-
 Texts of the proofs over baudot/dial.
-/
import Derived.Test.YtldmfjcgjdchcaaGreatDoorJ11
namespace Go.Proofs.YtldmfjcgjdchcaaGreatDoor.Sg
open Go.RL Go.Proofs.Tryz
set_option maxHeartbeats 8000000
set_option maxRecDepth 10000
theorem GN(pace after:Int):∀(f:Nat) (n j:Int),n<=j->j<EC pace after f n->(2*j+1)*pace<after
 | 0,n,j,h1,h2=> by simp[EC] at h2;omega
 | f + 1,n,j,h1,h2=> by
  unfold EC at h2;split at h2
  ·rename_i NB
   by_cases e:j=n
   ·subst e;exact NB
   ·exact GN pace after f (n+1) j oM h2
  ·omega
theorem NK {pace after j:Int}(h0:0<=j)(h:j<zB pace after):(2*j+1)*pace<after:=GN pace after 7 0 j h0 h
theorem ZU {pace after:Int}(hp:0<pace){m:Int}(h0:0<=m)(h7:m<7):m<zB pace after<->(2*m+1)*pace<after:=by
 constructor
 ·exact NK h0
 ·intro h;obtain⟨h1,h2,h3⟩:=mD pace after;by_cases e:m<zB pace after
  ·exact e
  ·have h4:=h3 oM;have h5:(2*zB pace after+1)*pace<=(2*m+1)*pace:=Int.mul_le_mul_of_nonneg_right oM oM;omega
theorem KS {pace a b:Int}(hp:0<pace)(h:a<=b):zB pace a<=zB pace b:=by
 obtain⟨h1,h2,_⟩:=mD pace a;obtain⟨g1,g2,_⟩:=mD pace b;by_cases e:zB pace a<=zB pace b
 ·exact e
 ·have h4:=NK (pace:=pace) (after:=a) g1 oM;have:=(ZU (after:=b) hp g1 oM).2 oM;omega
theorem qR {read mt after:Int}(hr:0<read):∀(f:Nat) (n m:Int),n<=m->m<=mt->(mt+1-n).toNat<=f->∃o∈XF read mt after f n,o.1=zB read (after+m)/\n<=o.2/\o.2<=m
 | 0,n,m,h1,h2,h3=> by omega
 | f + 1,n,m,h1,h2,h3=> by
  unfold XF;rw[if_pos oM];by_cases e:zB read (after+m)=zB read (after+n)
  ·exact⟨_,List.mem_cons_self,e.symm,Int.le_refl _,h1⟩
  ·have h4:=KS (pace:=read) hr (show after+n<=after+m by omega);have h5:=mD read (after+n);have h6:=mD read (after+m);rw[if_neg oM];have h7:=h5.2.2 oM;have h8:=NK (pace:=read) (after:=after+m) h5.1 oM;obtain⟨o,ho,h9,h10,h11⟩:=qR (after:=after) hr f ((2*zB read (after+n)+1)*read+1-after) m oM h2 oM;exact⟨o,List.mem_cons_of_mem _ ho,h9,oM,h11⟩
theorem lV {read mt after:Int}:∀(f:Nat) (n:Int) (o:Int×Int),o∈XF read mt after f n->n<=o.2/\o.2<=mt/\o.1=zB read (after+o.2)
 | 0,n,o,h=> by cases h
 | f + 1,n,o,h=> by
  unfold XF at h;split at h
  ·rename_i hn
   rcases List.mem_cons.1 h with rfl|h
   ·exact⟨Int.le_refl _,hn,rfl⟩
   ·split at h
    ·cases h
    ·rename_i h7
     have h5:=mD read (after+n);obtain⟨h1,h2,h3⟩:=lV f _ o h;have:=h5.2.2 h7;exact⟨oM,h2,h3⟩
  ·cases h
def QB.fO(s:QB)(i:Nat)(m:Int):Int:=if i=0 then 0 else zB s.read (s.after (s.ps[i]?.getD 0) i+m)
def QB.may(s:QB)(i:Nat)(m:Int):Prop:=if i=0 then m=s.first else s.mf<=m/\m<=s.mt
theorem QB.I6 {s:QB}(hr:0<s.read){i:Nat}{m:Int}(h:s.may i m):∃o∈s.opts (s.ps[i]?.getD 0) i,o.1=s.fO i m/\o.2<=m:=by
 unfold QB.may at h;unfold QB.opts QB.fO;split at h
 ·rename_i hi
  subst hi;rw[if_pos rfl,if_pos rfl];exact⟨_,List.mem_cons_self,rfl,oM⟩
 ·rename_i hi
  rw[if_neg hi,if_neg hi];obtain⟨o,h1,h2,h3,h4⟩:=qR (read:=s.read) (mt:=s.mt) (after:=s.after (s.ps[i]?.getD 0) i) hr (s.mt+1-s.mf).toNat s.mf m h.1 h.2 (Nat.le_refl _);exact⟨o,h1,h2,h4⟩
theorem QB.aAA {s:QB}{i:Nat}{o:Int×Int}(h:o∈s.opts (s.ps[i]?.getD 0) i):s.may i o.2/\o.1=s.fO i o.2:=by
 unfold QB.opts at h;unfold QB.may QB.fO;split at h
 ·rename_i hi
  simp only[List.mem_singleton] at h;subst h;subst hi;exact⟨by simp,by simp⟩
 ·rename_i hi
  obtain⟨h1,h2,h3⟩:=lV _ _ _ h;rw[if_neg hi,if_neg hi];exact⟨⟨h1,h2⟩,h3⟩
def QB.zE(s:QB)(i v:Nat):List Int->Nat
 | []=> v
 | m::l=> s.zE (i+1) (nD v (s.fO i m).toNat) l
def QB.lH(s:QB)(i:Nat):List Int->Prop
 | []=> True
 | m::l=> s.may i m/\s.lH (i+1) l
def QB.view(s:QB)(mv:List Int):Nat:=s.zE 0 127 mv
theorem C6 {os:List (Int×Int)}{R:Nat->Bool}{w:Nat}:DI os R 128 0 w=true<->∃u,u<128/\R u=true/\∃o∈os,toV u o=w:=by
 unfold DI;simp only[List.take_zero,List.any_nil,Bool.false_and,Bool.or_false,List.any_eq_true,List.mem_range,Bool.and_eq_true,beq_iff_eq];constructor
 ·rintro⟨u,h1,⟨o,h2,h3⟩,h4⟩;exact⟨u,h1,h4,o,h2,h3⟩
 ·rintro⟨u,h1,h4,o,h2,h3⟩;exact⟨u,h1,⟨o,h2,h3⟩,h4⟩
theorem QB.uH(s:QB):∀(l:List Int) (i v:Nat) (m:Int),s.zE i v (l++[m])=nD (s.zE i v l) (s.fO (i+l.length) m).toNat
 | [],i,v,m=> rfl
 | a::l,i,v,m=> by
  show s.zE (i+1) _ (l++[m])=_;rw[QB.uH s l];simp only[List.length_cons];rw[show i+1+l.length=i+(l.length+1) by omega];rfl
theorem QB.mJ(s:QB):∀(l:List Int) (i:Nat) (m:Int),s.lH i (l++[m])<->s.lH i l/\s.may (i+l.length) m
 | [],i,m=> by simp[QB.lH]
 | a::l,i,m=> by
  simp only[List.cons_append,QB.lH,List.length_cons];rw[QB.mJ s l,show i+1+l.length=i+(l.length+1) by omega,and_assoc]
theorem QB.aAp {s:QB}(i:Nat)(m:Int):0<=s.fO i m/\s.fO i m<=7:=by
 unfold QB.fO;split
 ·omega
 ·have:=mD s.read (s.after (s.ps[i]?.getD 0) i+m);omega
theorem QB.ON(s:QB):∀(l:List Int) (i v:Nat),v<128->s.zE i v l<128
 | [],_,_,h=> h
 | m::l,i,v,h=> by
  have:=QB.aAp (s:=s) i m;exact QB.ON s l (i+1) _ (AR v h _ oM)
theorem QB.sJ {s:QB}(hr:0<s.read):∀(k:Nat) (w:Nat),s.BA k w=true<->∃mv:List Int,mv.length=k/\s.lH 0 mv/\s.view mv=w
 | 0,w=> by
  constructor
  ·intro h;simp only[QB.BA,beq_iff_eq] at h;exact⟨[],rfl,trivial,h.symm⟩
  ·rintro⟨mv,h1,_,h3⟩;cases List.eq_nil_of_length_eq_zero h1
   simp only[QB.BA,beq_iff_eq];exact h3.symm
 | k + 1,w=> by
  unfold QB.BA;rw[C6];constructor
  ·rintro⟨u,h1,h2,o,h3,h4⟩;obtain⟨mv,h5,h6,h7⟩:=(QB.sJ hr k u).1 h2;obtain⟨h8,h9⟩:=QB.aAA h3;refine⟨mv++[o.2],by simp[h5],(QB.mJ s mv 0 o.2).2 ⟨h6,by rw[Nat.zero_add,h5];exact h8⟩,?_⟩;unfold QB.view at h7 ⊢;rw[QB.uH,h7,Nat.zero_add,h5,<-h9];exact h4
  ·rintro⟨mv,h1,h2,h3⟩;obtain⟨mv',m,rfl⟩:∃mv' m,mv=mv'++[m]:=by
    refine⟨mv.dropLast,mv.getLast (by intro e;rw[e] at h1;cases h1),?_⟩;exact(List.dropLast_concat_getLast _).symm
   simp only[List.length_append,List.length_cons,List.length_nil,Nat.zero_add,Nat.add_right_cancel_iff] at h1;obtain⟨h4,h5⟩:=(QB.mJ s mv' 0 m).1 h2;rw[Nat.zero_add,h1] at h5;obtain⟨o,h6,h7,_⟩:=QB.I6 hr h5;refine⟨s.view mv',QB.ON s mv' 0 127 dE,(QB.sJ hr k _).2 ⟨mv',h1,h4,rfl⟩,o,h6,?_⟩;unfold QB.view at h3;rw[QB.uH,Nat.zero_add,h1,<-h7] at h3;exact h3
theorem QB.uR {s:QB}(hr:0<s.read){w:Nat}:s.reach w=true<->∃mv:List Int,mv.length=s.ps.length/\s.lH 0 mv/\s.view mv=w:=QB.sJ hr _ _
set_option maxHeartbeats 4000000
theorem lR {p:Nat->Bool}{k i:Nat}(h:i<(tB p k).length):0<=(tB p k)[i]?.getD 0/\(tB p k)[i]?.getD 0<=(k:Int)-1:=by
 rw[List.getElem?_eq_getElem h];have hm:=List.getElem_mem h;simp only[Option.getD_some];generalize (tB p k)[i]=z at hm;unfold tB at hm;obtain⟨n,hn,rfl⟩:=List.mem_map.1 hm;have:=List.mem_range.1 (List.mem_filter.1 hn).1;omega
theorem qX {p:Nat->Bool}{k i:Nat}(h0:0<i)(h:i<(tB p k).length):(tB p k)[i-1]?.getD 0<(tB p k)[i]?.getD 0:=by
 rw[List.getElem?_eq_getElem h,List.getElem?_eq_getElem (show i-1<(tB p k).length by omega)];have hp:(tB p k).Pairwise (· < ·):=by
  unfold tB;rw[List.pairwise_map];exact(List.Pairwise.filter p List.pairwise_lt_range).imp (fun h=> by exact_mod_cast h)
 exact List.pairwise_iff_getElem.1 hp (i-1) i oM h oM
theorem LM(p:Nat->Bool)(k:Nat):(tB p k).length<=k:=by
 unfold tB;rw[List.length_map];have:=List.length_filter_le p (List.range k);rw[List.length_range] at this;exact this
section
variable(M:Md prog)(H:View)
end
set_option maxHeartbeats 8000000
theorem bK {p:Int->Bool}{lo hi:Int}:∀(l:List Int) (o:Option (Int×Int)),(∀x∈l,lo<=x/\x<=hi)->l.Pairwise (· < ·)->(∀a b,o=some (a,b)->p a=true/\p b=true/\a<=b/\lo<=a/\b<=hi/\∀x∈l,b<x)->∀a b,qE p l o=some (a,b)->p a=true/\p b=true/\a<=b/\lo<=a/\b<=hi
 | [],o,_,_,h,a,b,e=> by
  obtain⟨h1,h2,h3,h4,h5,_⟩:=h a b e;exact⟨h1,h2,h3,h4,h5⟩
 | n ::l,o,hl,hp,h,a,b,e=> by
  have hn:=hl n List.mem_cons_self;obtain⟨g1,g2⟩:=List.pairwise_cons.1 hp;cases QZ:p n with
  | false=>
   have e2:qE p l o=some (a,b):=by
    unfold qE at e;rw[if_neg (by rw[QZ];decide)] at e;exact e
   exact bK l o (fun x hx=> hl x (List.mem_cons_of_mem _ hx)) g2 (fun a' b' e'=> by
    obtain⟨h1,h2,h3,h4,h5,h6⟩:=h a' b' e';exact⟨h1,h2,h3,h4,h5,fun x hx=> h6 x (List.mem_cons_of_mem _ hx)⟩) a b e2
  | true=>
   cases o with
   | none=>
    have e2:qE p l (some (n,n))=some (a,b):=by
     have e1:qE p l (if p n then some (n,n) else none)=some (a,b):=e;rw[if_pos QZ] at e1;exact e1
    refine bK l (some (n,n)) (fun x hx=> hl x (List.mem_cons_of_mem _ hx)) g2 (fun a' b' e'=> ?_) a b e2;simp only[Option.some.injEq,Prod.mk.injEq] at e';obtain⟨rfl,rfl⟩:=e';exact⟨QZ,QZ,Int.le_refl _,hn.1,hn.2,g1⟩
   | some ab=>
    obtain⟨x,y⟩:=ab;have e2:qE p l (some (x,n))=some (a,b):=by
     have e1:qE p l (if p n then some (x,n) else some (x,y))=some (a,b):=e;rw[if_pos QZ] at e1;exact e1
    refine bK l (some (x,n)) (fun x hx=> hl x (List.mem_cons_of_mem _ hx)) g2 (fun a' b' e'=> ?_) a b e2;simp only[Option.some.injEq,Prod.mk.injEq] at e';obtain⟨rfl,rfl⟩:=e';obtain⟨h1,h2,h3,h4,h5,h6⟩:=h x y rfl;exact⟨h1,QZ,by have:=h6 n List.mem_cons_self;omega,h4,hn.2,g1⟩
theorem aAX(a b:Int):(KE a b).Pairwise (· < ·):=by
 unfold KE;rw[List.pairwise_map];exact List.pairwise_lt_range.imp fun h=> by omega
theorem Lk.aAV {k:Lk}{ps:List Nat}{t:List Int}{a b:Int}(h:k.cN ps t=some (a,b)):k.wG ps a (YA t ps.length)=true/\k.wG ps b (YA t ps.length)=true/\a<=b/\k.s0<=a/\b<=k.s1:=
 bK (KE k.s0 k.s1) none (fun _ hx=> wE.1 hx) (aAX _ _) (fun _ _ e=> nomatch e) a b h
theorem Lk.aAv {k:Lk}(hk:k.ok=true){a b:Int}(h1:k.s0<=a)(h2:a<=b)(h3:b<=k.s1):(k.aAK a b).ok=true:=by
 rw[Lk.ok_eq] at hk ⊢;simp only[Bool.and_eq_true] at hk ⊢;obtain⟨⟨h4,h5⟩,h6⟩:=hk;have h7:1<=k.s0/\k.s0<=k.s1/\k.s1<=40/\k.s1-k.s0<3:=of_decide_eq_true h4;exact⟨⟨decide_eq_true (by show 1<=a/\a<=b/\b<=40/\b-a<3;omega),h5⟩,h6⟩
set_option maxHeartbeats 16000000
def R2(H:View)(A:Option Addr)(l:List Int):Prop:=
 (∀x∈l, -32768<=x/\x<=32767)/\(l= []\/∃ab ao f gs gt gz,A=some ⟨ab,ao,none⟩/\H ab=some (f,.cells ⟨gs⟩ gt gz)/\∀j:Nat,j<l.length->BC false 1 gs (ao+(j:Int).toNat*1)=some (.int .i16 (l[j]?.getD 0)))
section
variable(M:Md prog)(H:View)
end
end Go.Proofs.YtldmfjcgjdchcaaGreatDoor.Sg
namespace Go.Proofs.YtldmfjcgjdchcaaGreatDoor
open Go.RL Go.Proofs.Tryz Go.ChangeShapes Go.WideShapes Go.ChangeAt Go.RowKit
set_option maxRecDepth 100000
theorem qU:prog.globalNamed "baudot/signal.checks"=some 2:=by kernel_rfl
theorem G7:(prog.globals[2]?).map (·.type)=some 266:=by kernel_rfl
theorem aBq:prog.underlying 266=some (.array 4 265):=by kernel_rfl
theorem eZ:prog.underlying 265=some (.func #[132] #[4] false):=by kernel_rfl
theorem I9:prog.cellsOf 265=1:=by kernel_rfl
theorem G9:prog.cellsOf 266=4:=by kernel_rfl
theorem p7 {LL:List (String×DataW Unit)}(hc:("baudot/signal.checks",(Rows.laid_baudot_signal_checks:DataW Unit))∈LL){W:World}(h:laidMetH prog LL W):Sg.HC (NC W):=by
 obtain⟨g,t,cs,fuel,p,hg,ht,hv,hd⟩:=h.funcs (n:= "baudot/signal.checks") hc;obtain rfl:=Option.some.inj (qU.symm.trans hg);obtain rfl:=Option.some.inj (G7.symm.trans ht);have hh:∃gt gz,W.heap[2]? =some (.cells cs gt gz):=by
  unfold World.var? at hv;rw[qU] at hv;simp only[Option.bind_some] at hv;split at hv
  ·rename_i cs' t' z e
   obtain rfl:=Option.some.inj hv;exact⟨_,_,e⟩
  ·cases hv
 obtain⟨gt,gz,hh⟩:=hh;have hlen:cs.toList.length=4:=by
  cases fuel with
  | zero=> simp[DataW.trod] at hd
  | succ n=>
   unfold DataW.trod at hd;rw[aBq] at hd;simp[G9] at hd
   simpa using hd.1
 obtain⟨c0,c1,c2,c3,vT⟩:∃c0 c1 c2 c3,cs.toList= [c0,c1,c2,c3]:=by
  match e:cs.toList,hlen with
  | [c0,c1,c2,c3],_=> exact⟨c0,c1,c2,c3,rfl⟩
 rw[vT] at hd;obtain⟨y0,y1,y2,y3,n,hx,r0,r1,r2,r3⟩:=trod_array4 aBq I9 hd;have dO:=congrArg Prod.fst hx;have mX:(DataW.agg [y0.1,y1.1,y2.1,y3.1]:DataW (List UInt8))=DataW.agg [.held _,.held _,.held _,.held _]:=dO.symm;simp only[DataW.agg.injEq,List.cons.injEq,and_true] at mX;obtain⟨e0,e1,e2,e3⟩:=mX;obtain⟨d0,q0⟩:=y0;obtain⟨d1,q1⟩:=y1;obtain⟨d2,q2⟩:=y2;obtain⟨d3,q3⟩:=y3;simp only at e0 e1 e2 e3;subst e0 e1 e2 e3;obtain rfl:=func_of_trod (f0:=363) eZ kR r0;obtain rfl:=func_of_trod (f0:=364) eZ kR r1;obtain rfl:=func_of_trod (f0:=354) eZ kR r2;obtain rfl:=func_of_trod (f0:=365) eZ kR r3;refine⟨false,gt,gz,?_⟩;have ec:cs=⟨[Sg.iF 0,Sg.iF 1,Sg.iF 2,Sg.iF 3]⟩:=by
  apply Array.ext'
  rw[vT];rfl
 rw[<-ec];simp only[NC,hh,Option.map_some]
theorem H0 {W:World}{base:Nat}{v:Value}(h:Value.okWide prog W .any base 49 v):∃k:Sg.Lk,v=k.val:=by
 have h':∃cs,v=.agg cs/\cs.size=prog.cellsOf 49/\Row.okWide prog W .any base 49 cs:=by
  unfold Value.okWide at h;split at h
  ·exact h
  ·exact h
  ·rename_i h1 h2
   exact(h1 _ Tryz.underlying49).elim
 obtain⟨cs,rfl,IE,ts,h1,_,h3⟩:=h';rw[show prog.cellsOf 49=8 by kernel_rfl] at IE;obtain rfl:=Option.some.inj ((show prog.cellTypes prog.depth 49=some [3,3,3,3,3,3,3,3] by kernel_rfl).symm.trans h1);have hc:∀i,i<8->∃x,cs[i]? =some (.int .i64 x):=fun i hi=> by
  have hg:cs[i]? =some cs[i]:=Array.getElem?_eq_getElem oM;obtain⟨u,hu,hv⟩:=h3 i _ hg;have:u=3:=by
   rcases(by omega:i=0\/i=1\/i=2\/i=3\/i=4\/i=5\/i=6\/i=7) with rfl|rfl|rfl|rfl|rfl|rfl|rfl|rfl <;> exact(Option.some.inj hu).symm
  subst this;obtain⟨x,hx⟩:=M3 hv;exact⟨x,by rw[hg,hx]⟩
 obtain⟨x0,e0⟩:=hc 0 dE;obtain⟨x1,e1⟩:=hc 1 dE;obtain⟨x2,e2⟩:=hc 2 dE;obtain⟨x3,e3⟩:=hc 3 dE;obtain⟨x4,e4⟩:=hc 4 dE;obtain⟨x5,e5⟩:=hc 5 dE;obtain⟨x6,e6⟩:=hc 6 dE;obtain⟨x7,e7⟩:=hc 7 dE;refine⟨⟨x0,x1,x2,x3,x4,x5,x6,x7⟩,?_⟩;unfold Sg.Lk.val
 congr 1
 obtain⟨l⟩:=cs;simp only[List.size_toArray] at IE;obtain⟨a,b,c,d,e,f,g,h,rfl⟩:∃a b c d e f g h,l= [a,b,c,d,e,f,g,h]:=by
  match l,IE with
  | [a,b,c,d,e,f,g,h],_=> exact⟨a,b,c,d,e,f,g,h,rfl⟩
 simp at e0 e1 e2 e3 e4 e5 e6 e7
 rw[e0,e1,e2,e3,e4,e5,e6,e7]
theorem jV {H:Type}{enc:TypeId×Value->H}{W:World}{base:Nat}{v:Value}(hv:Value.okWide prog W .any base 50 v)(h:∃d q,DataW.Trod enc prog W 0 (fun _=> true) true 50 v d q):
  ∃(A:Option Addr) (l:List Int) (ca:Nat),v=.slice A l.length ca/\Sg.R2 (NC W) A l:=by
 obtain⟨d,q,h⟩:=h;obtain⟨A,l,ca,rfl,_,_,h1,h2⟩:=I0 (k:=.i16) Tryz.underlying50 kR kR hv h;refine⟨A,l,ca,rfl,fun x hx=> ?_,?_⟩
 ·have h3:=h1 x hx;rw[show IntKind.i16.min= -32768 by kernel_rfl,show IntKind.i16.max=32767 by kernel_rfl] at h3;omega
 ·rcases h2 with h2|⟨ab,ao,gs,gt,gz,e1,e2,e3⟩
  ·exact .inl h2
  ·exact .inr ⟨ab,ao,false,gs,gt,gz,e1,e2,e3⟩
end Go.Proofs.YtldmfjcgjdchcaaGreatDoor
namespace Go.Proofs.YtldmfjcgjdchcaaGreatDoor
open Go.RL Go.Proofs.Tryz
set_option maxRecDepth 10000
set_option maxHeartbeats 16000000
theorem B9 {k:Bk}(dC:k.QC){i:Nat}(hi:i<k.nt):(k.can i).length<=12:=by
 obtain⟨h1,h2,h3⟩:=k.IG dC hi;have e:∀a b lo hi:Nat,(dK a b lo hi).length=(b+1-a)*(hi+1-lo):=fun a b lo hi=> by
  unfold dK W7;rw[List.length_flatMap];simp only[List.length_map,List.length_range',List.map_const',List.sum_replicate_nat]
 unfold Bk.can;rw[e];have h4:=k.TJ (k.qt i);have m1:(k.pt i).toNat+1-(k.pf i).toNat<=4:=by omega
 have m2:k.kind (k.qt i)+1-k.kind (k.qf i)<=3:=by omega
 exact Nat.mul_le_mul m1 m2
theorem RO {k:Bk}(ha:k.VA=0):(k.UF k.nt).length<=12 ^ 6:=by
 obtain⟨_,_,JM,dC⟩:=Bk.valid ha;have h:∀n,n<=k.nt->(k.UF n).length<=12 ^ n:=by
  intro n;induction n with
  | zero=> intro _;exact Nat.le_refl _
  | succ n ih=>
   intro hn;unfold Bk.UF;rw[List.length_flatMap];have h1:∀l:List LG,(l.map fun e=> ((k.can n).map fun x=> e.hear x.1 x.2).length).sum<=l.length*12:=by
    intro l;induction l with
    | nil=> exact Nat.le_refl _
    | cons e t iht=>
     have:=B9 dC (i:=n) oM;simp only[List.map_cons,List.sum_cons,List.length_map,List.length_cons] at iht ⊢;omega
   have h2:=h1 (k.UF n);have h3:=ih oM;rw[Nat.pow_succ];omega
 exact Nat.le_trans (h k.nt (Nat.le_refl _)) (Nat.pow_le_pow_right dE JM)
section
variable(M:Md prog)(H:View)
theorem BO(k:Bk)(A:Option Addr)(lc:Nat)(B:Option Addr)(tc:Nat)(hk:GD H k A lc B tc)(hn:k.small)(hG:HC H)(ha:k.VA=0):
  aA M 49 #[k.val A lc B tc] H (fun v H'=> H.le H'/\∃g:Gl 9 1,v=aDW g 0/\(g.n=k.xD.length/\g.l=PB k.xD)/\∀x∈g.bl,H' x.1=some x.2/\H x.1=none):=by
 obtain⟨_,mQ,JM,dC⟩:=Bk.valid ha;have uT:=RO ha;have qA:=fun(H':View) (h':H.le H')=> FC M H' k A lc B tc (hk.le h') hn (EA hG h') ha;refine .en func49 ntmps49 fun St c cs hK=> ?_;refine U2 ?_;refine .bo fun b1=> ?_;refine U6 ?_;refine .cl (fun H hs=> qA H hs.base) ?_;refine U3 ?_;refine .al fun b4=> ?_;refine p9 ?_;refine To.sB rfl rfl rfl rfl rfl rfl dE (CB.h (JW M H k A lc B tc hk.UD dC JM k.nt (Nat.le_refl _))) (fun v H₂ hv=> ?_);obtain⟨hle,m,es,cl,rfl,⟨fm,q3⟩,q4⟩:=hv;have IE:=zZ q4;refine .e (Or.range (E:=en) (es:=es) (cl:=cl) rfl rfl (fun H hs=> ⟨fm,hs.base _ _ q3⟩) rfl rfl rfl dE (fun it=> ?_));refine U2 ?_;refine Tc.db (Tc.sA (σ:= { s:Array Nat×List (List UInt8)×Gl 9 1//s.2.2.l=PB s.2.1/\(aD es s.1).length+s.2.1.length=es.size/\∀x,x∈(k.UF k.nt).map (·.heard)<->(x∈s.2.1\/∃me∈aD es s.1,∃e:LG,me.key=e.val/\x=e.heard) })
  (fun s=> ([(1,.pointer (some ⟨b1,0,none⟩)),(4,.pointer (some ⟨b4,0,none⟩)),(6,s.1.2.2.val),(21,.pointer (some ⟨it,0,none⟩))],[(it,true,.mapIter (some m) cl s.1.1 cl),(b4,true,.cells ⟨(k.val A lc B tc).cells.toList⟩ 166 (0,0)),(b1,true,.cells ⟨(k.val A lc B tc).cells.toList⟩ 45 (0,0))]++s.1.2.2.bl)) (fun s=> (aD es s.1.1).length) ?_ ⟨(#[],[],Gl.nil 9 1),rfl,by rw[SC];simp,fun x=> by
   rw[SC,List.mem_map];constructor
   ·rintro⟨e,he,rfl⟩;obtain⟨me,h1,h2,_⟩:=(q4.mem e.val (.bool true)).1 ⟨e,(k.LC _ e).1 he,rfl,rfl⟩;exact .inr ⟨me,h1,e,h2,rfl⟩
   ·rintro(h|⟨me,h1,e,h2,rfl⟩)
    ·cases h
    ·obtain⟨y,h3,h4,_⟩:=bE q4 me h1;rw[UG (h2.symm.trans h4)];exact⟨y,(k.LC _ y).2 h3,rfl⟩⟩)
 rintro⟨⟨seen,dn,g⟩,p2,p3,p4⟩ ih;simp only at p2 p3 p4;show Tc M St _ _ H₂ _ [(1,.pointer (some ⟨b1,0,none⟩)),(4,.pointer (some ⟨b4,0,none⟩)),(6,g.val),(21,.pointer (some ⟨it,0,none⟩))] ([(it,true,.mapIter (some m) cl seen cl),(b4,true,.cells ⟨(k.val A lc B tc).cells.toList⟩ 166 (0,0)),(b1,true,.cells ⟨(k.val A lc B tc).cells.toList⟩ 45 (0,0))]++g.bl) _ _;have iK:g.n=dn.length:=by have:=g.hl;rw[p2,xF] at this;omega
 refine U2 ?_;refine .e (Or.next (es:=es) 0 rfl rfl rfl (fun H hs=> ⟨fm,hs.base _ _ q3⟩) q4.lt rfl dE (fun me he K8=> ?_) (fun TA=> ?_))
 ·have hp :=KF q4.QI he K8;obtain⟨e0,u1,u2,_⟩:=bE q4 me he;have HF:=OJ q4 he;have PZ:=hp.length_eq;rw[List.length_cons] at PZ;refine U8 ?_;refine .e (Or.entry (es:=es) (e:=me) (st:=me.born) rfl rfl (fun H hs=> ⟨true,hs.get (i:=0) rfl⟩) (fun H hs=> ⟨fm,hs.base _ _ q3⟩) (by simp) HF rfl dE ?_);rw[u2];refine U ?_;refine .al fun b7=> ?_;refine U6 ?_;refine .e (.bs (zz:=fun bs=> ?_));refine .e (Or.append (E:=en) 5 rfl rfl rfl rfl rfl rfl rfl rfl rfl rfl rfl rfl rfl rfl rfl (fun H hs=> UA.of (hs.get (i:=0) rfl) (Nat.le_of_ble_eq_true rfl)) rfl oM rfl dE (fun g' aW xN=> ?_));refine U3 ?_;exact Tc.db (ih ⟨(seen.push me.born,dn++[e0.heard],g'),by simp only;rw[xN,p2,wF];rfl,by simp only;rw[List.length_append,List.length_singleton];omega,fun x=> by
   rw[p4 x,List.mem_append,List.mem_singleton];constructor
   ·rintro(h|⟨me',h1,e',h2,h5⟩)
    ·exact .inl (.inl h)
    ·rcases List.mem_cons.1 (hp.mem_iff.1 h1) with rfl|h6
     ·rw[UG (h2.symm.trans u2)] at h5;exact .inl (.inr h5)
     ·exact .inr ⟨me',h6,e',h2,h5⟩
   ·rintro((h|h)|⟨me',h6,h7⟩)
    ·exact .inl h
    ·exact .inr ⟨me,hp.mem_iff.2 (List.mem_cons_self ..),e0,u2,h⟩
    ·exact .inr ⟨me',hp.mem_iff.2 (List.mem_cons_of_mem _ h6),h7⟩⟩ (by simp only;omega))
 ·have IM:=PE TA;rw[IM] at p3 p4;simp only[List.not_mem_nil,false_and,exists_false,or_false] at p4;rw[List.length_nil,Nat.zero_add] at p3;have aBV:k.xD=iL dn:=ZT p4;refine U8 ?_;refine .e (Or.v7 (dec:=mL dn) (L1:= [(it,true,.mapIter (some m) cl seen cl),(b4,true,.cells ⟨(k.val A lc B tc).cells.toList⟩ 166 (0,0)),(b1,true,.cells ⟨(k.val A lc B tc).cells.toList⟩ 45 (0,0))]) g (NF dn) (p2.trans (LN _).symm) (AH _) oM rfl rfl rfl rfl rfl dE (fun H Q h=> .h h) (fun g' mm lX ZK uS dX ht hs'=> ?_));rw[<-lX];rw[iK] at ht hs' ZK;have pE:(rB mm dn.length).map (mL dn)=k.xD:=by rw[aBV];exact tZ rfl ht hs'
  have hE':=(AH dn).zD ht;refine U4 ?_;refine .e (Or.N9 (dec:=mL dn) (L1:= [(it,true,.mapIter (some m) cl seen cl),(b4,true,.cells ⟨(k.val A lc B tc).cells.toList⟩ 166 (0,0)),(b1,true,.cells ⟨(k.val A lc B tc).cells.toList⟩ 45 (0,0))]) g' mm dX hE' oM rfl rfl rfl rfl rfl dE (fun H Q h=> .h h) (fun g2 NZ FU=> ?_));rw[ZK] at NZ FU;have hl4:g2.l=PB k.xD:=by rw[FU,xR,pE];rfl
  have hn4:g2.n=k.xD.length:=by rw[NZ,<-pE,List.length_map]
  refine U3 ?_;refine .rt hK func49 results49 [_,_] ?_;exact fun H' hs=> ⟨View.le_trans hle hs.base,g2,rfl,⟨hn4,hl4⟩,fun x hx=> ⟨hs.at_ x (by simp[hx]),none_le hle (hs.out x (by simp[hx]))⟩⟩
end
set_option maxHeartbeats 8000000
section
variable(M:Md prog)(H:View)
theorem KI(A B:Option Addr)(n m ac bc:Nat)(x y:Nat->List UInt8)(hA:HE H A n x)(hB:HE H B m y)(hn:n<=100000000)(hm:m<=100000000)(t:Bool)(ht:(decide (n=m)&&rG (fun i=> decide (x i=y i)) n)=t):
  aA M 59 #[.slice A n ac,.slice B m bc] H (fun v H'=> H.le H'/\v=.bool t):=by
 rw[<-ht];clear ht;refine .en func59 ntmps59 fun St c cs hK=> ?_;by_cases c0:n=m
 ·subst c0;rw[decide_eq_true rfl,Bool.true_and] at hK;refine lO ?_;refine Tc.db (Tc.sA (σ:= { j:Nat//j<=n/\∀i,i<j->x i=y i }) (fun j=> ([(0,.slice A n ac),(1,.slice B n bc),(5,.int .i64 (j.1:Nat))],[])) (fun j=> n-j.1) ?_ ⟨0,Nat.zero_le _,fun i hi=> by omega⟩);rintro⟨j,hj,TA⟩ ih;show Tc M St _ _ _ _ [(0,.slice A n ac),(1,.slice B n bc),(5,.int .i64 (j:Nat))] [] _ _;by_cases c1:j=n
  ·have e:rG (fun i=> decide (x i=y i)) n=true:=(JD n).2 (fun i hi=> decide_eq_true (TA i oM));subst c1;rw[e] at hK;refine lF ?_;refine .rt hK func59 results59 [_] ?_;exact okB
  ·have c2:j<n:=by omega
   obtain h0|⟨ab,ao,fa,gs,gt,gz,rfl,pI,uK⟩:=hA
   ·omega
   obtain h0|⟨bb,bo,fb,ks,kt,kz,rfl,CI,QJ⟩:=hB
   ·omega
   have f1:=uK j c2;have f2:=QJ j c2;by_cases c3:x j=y j
   ·have f3:RL.JF .neq (x j) (y j)=some (.bool false):=by simp[RL.JF,c3]
    refine ZF ?_;refine Tc.dr [] [] mixed rfl ?_;refine V9 0 ?_;refine .dn ?_;refine U8 ?_;exact Tc.db (ih ⟨j+1,oM,fun i hi=> by by_cases e:i=j;exact e▸c3;exact TA i oM⟩ (by simp only;omega))
   ·have f3:RL.JF .neq (x j) (y j)=some (.bool true):=by simp[RL.JF,c3]
    have e:rG (fun i=> decide (x i=y i)) n=false:=sG c2 (decide_eq_false c3);rw[e] at hK;refine ZF ?_;refine Tc.dr [] [] mixed rfl ?_;refine V9 0 ?_;refine .dn ?_;refine U5 ?_;refine .rt hK func59 results59 [_] ?_;exact okB
 ·rw[decide_eq_false c0,Bool.false_and] at hK;refine hY ?_;refine .rt hK func59 results59 [_] ?_;exact okB
theorem NR(A B:Option Addr)(n m ac bc:Nat)(x y:Nat->Int)(hA:GB H A n x)(hB:GB H B m y)(hn:n<=1000000)(hm:m<=1000000)(t:Bool)(ht:(decide (n=m)&&rG (fun i=> decide (x i=y i)) n)=t):
  aA M 147 #[.slice A n ac,.slice B m bc] H (fun v H'=> H.le H'/\v=.bool t):=by
 rw[<-ht];clear ht;refine .en func147 ntmps147 fun St c cs hK=> ?_;by_cases c0:n=m
 ·subst c0;rw[decide_eq_true rfl,Bool.true_and] at hK;refine lO ?_;refine Tc.db (Tc.sA (σ:= { j:Nat//j<=n/\∀i,i<j->x i=y i }) (fun j=> ([(0,.slice A n ac),(1,.slice B n bc),(5,.int .i64 (j.1:Nat))],[])) (fun j=> n-j.1) ?_ ⟨0,Nat.zero_le _,fun i hi=> by omega⟩);rintro⟨j,hj,TA⟩ ih;show Tc M St _ _ _ _ [(0,.slice A n ac),(1,.slice B n bc),(5,.int .i64 (j:Nat))] [] _ _;by_cases c1:j=n
  ·have e:rG (fun i=> decide (x i=y i)) n=true:=(JD n).2 (fun i hi=> decide_eq_true (TA i oM));subst c1;rw[e] at hK;refine lF ?_;refine .rt hK func147 results147 [_] ?_;exact okB
  ·have c2:j<n:=by omega
   obtain h0|⟨ab,ao,fa,gs,gt,gz,rfl,pI,uK⟩:=hA
   ·omega
   obtain h0|⟨bb,bo,fb,ks,kt,kz,rfl,CI,QJ⟩:=hB
   ·omega
   have f1:=uK j c2;have f2:=QJ j c2;by_cases c3:x j=y j
   ·skip
    refine ZF ?_;refine Tc.dr [] [] mixed rfl ?_;refine V9 0 ?_;refine .dn ?_;refine U8 ?_;exact Tc.db (ih ⟨j+1,oM,fun i hi=> by by_cases e:i=j;exact e▸c3;exact TA i oM⟩ (by simp only;omega))
   ·skip
    have e:rG (fun i=> decide (x i=y i)) n=false:=sG c2 (decide_eq_false c3);rw[e] at hK;refine ZF ?_;refine Tc.dr [] [] mixed rfl ?_;refine V9 0 ?_;refine .dn ?_;refine U5 ?_;refine .rt hK func147 results147 [_] ?_;exact okB
 ·rw[decide_eq_false c0,Bool.false_and] at hK;refine hY ?_;refine .rt hK func147 results147 [_] ?_;exact okB
theorem LO(A B:Option Addr)(n m ac bc:Nat)(x y:Nat->Int)(hA:GB H A n x)(hB:GB H B m y)(hn:n<=1000000)(hm:m<=1000000)(t:Bool)(ht:(decide (n=m)&&rG (fun i=> decide (x i=y i)) n)=t):
  aA M 60 #[.slice A n ac,.slice B m bc] H (fun v H'=> H.le H'/\v=.bool t):=by
 refine .en func60 ntmps60 fun St c cs hK=> ?_;refine U8 ?_;refine .cl (fun H hs=> NR M H A B n m ac bc x y (hA.le hs.base) (hB.le hs.base) hn hm t ht) ?_;refine U2 ?_;refine .rt hK func60 results60 [_] ?_;exact okB
end
set_option maxHeartbeats 16000000
section
variable(M:Md prog)(H:View)
theorem GQ(A B:Option Addr)(n ac bc:Nat)(x y:Nat->Int)(hA:GB H A n x)(hB:GB H B n y)(hn:n<=1000000)(he:∀i,i<n->x i=y i):
  aA M 148 #[.slice A n ac,.slice B n bc] H (fun v H'=> H.le H'/\v=.bool false):=by
 refine .en func148 ntmps148 fun St c cs hK=> ?_;refine UC ?_;refine Tc.db (Tc.sA (σ:= { j:Nat//j<=n }) (fun j=> ([(0,.slice A n ac),(1,.slice B n bc),(5,.int .i64 (j.1:Nat))],[])) (fun j=> n-j.1) ?_ ⟨0,Nat.zero_le _⟩);rintro⟨j,hj⟩ ih;show Tc M St _ _ _ _ [(0,.slice A n ac),(1,.slice B n bc),(5,.int .i64 (j:Nat))] [] _ _;by_cases c1:j=n
 ·subst c1;refine U25 ?_;refine .rt hK func148 results148 [_] ?_;exact okB
 ·have c2:j<n:=by omega
  obtain h0|⟨ab,ao,fa,gs,gt,gz,rfl,pI,uK⟩:=hA
  ·omega
  obtain h0|⟨bb,bo,fb,ks,kt,kz,rfl,CI,QJ⟩:=hB
  ·omega
  have f1:=uK j c2;have f2:=QJ j c2;have f3:=he j c2;refine PR ?_;refine Tc.dr [] [] mixed rfl ?_;refine V9 0 ?_;refine .dn ?_;refine U8 ?_;exact Tc.db (ih ⟨j+1,oM⟩ (by simp only;omega))
theorem MT(A B:Option Addr)(n ac bc:Nat)(x y:Nat->Int)(hA:GB H A n x)(hB:GB H B n y)(hn:n<=1000000)(he:∀i,i<n->x i=y i):
  aA M 61 #[.slice A n ac,.slice B n bc] H (fun v H'=> H.le H'/\v=.bool true):=by
 refine .en func61 ntmps61 fun St c cs hK=> ?_;refine U8 ?_;refine .cl (fun H hs=> GQ M H A B n ac bc x y (hA.le hs.base) (hB.le hs.base) hn he) ?_;refine U4 ?_;refine .cl (fun H hs=> GQ M H B A n bc ac y x (hB.le hs.base) (hA.le hs.base) hn (fun i hi=> (he i hi).symm)) ?_;refine U4 ?_;refine .rt hK func61 results61 [_] ?_;exact okB
theorem Z0(a b:Int):aA M 46 #[.int .i64 a,.int .i64 b] H (fun v H'=> H.le H'/\v=YB a b):=by
 refine .en func46 ntmps46 fun St c cs hK=> ?_;refine U2 ?_;refine .al fun b4=> ?_;refine U8 ?_;refine .rt hK func46 results46 [_] ?_;exact okB
theorem yO(p q:Int):aA M 14 #[.int .i64 p,.int .i64 q] H (fun v H'=> H.le H'/\v=TD p p q q):=by
 refine .en func14 ntmps14 fun St c cs hK=> ?_;refine U2 ?_;refine .al fun b4=> ?_;refine U5 ?_;refine .cl (fun H hs=> Z0 M H p p) ?_;refine U2 ?_;refine .cl (fun H hs=> Z0 M H q q) ?_;refine U3 ?_;refine .rt hK func14 results14 [_] ?_;exact okB
end
def MW(i:Nat):List UInt8:= [[97,110,110],[98,111,98],[101,118,101]][i]?.getD []
def uY(i:Nat):List UInt8:= [[49,50],[49,51],[50]][i]?.getD []
def CZ(i:Nat):Nat:= [1,2,1][i]?.getD 0
def LW(i j:Nat):Int:=([[1],[2,1],[0]][i]?.getD [])[j]?.getD 0
def uC(l:List Int)(i:Nat):Int:=l[i]?.getD 0
def AE:Bk:=⟨5,20,3,MW,uY,CZ,LW,2,uC [1,2],uC [1,3],uC [8,6],uC [8,6]⟩
def DF:Bk:=⟨5,20,3,MW,uY,CZ,LW,3,uC [1,1,2],uC [1,1,2],uC [3,9,9],uC [6,9,9]⟩
def XR:Bk:=AE.now 1 2 2 6 6
def exF(b0 b1 b2:Nat)(i:Nat):Option Addr:=match i with
 | 0=> some ⟨b0,0,none⟩
 | 1=> some ⟨b1,0,none⟩
 | _=> some ⟨b2,0,none⟩
structure dL(H:View)(bl b0 b1 b2:Nat):Prop where
 h:∃f gt gz,H bl=some (f,.cells ⟨[vA [97,110,110],vA [49,50],.slice (some ⟨b0,0,none⟩) 1 1,vA [98,111,98],vA [49,51],.slice (some ⟨b1,0,none⟩) 2 2,vA [101,118,101],vA [50],.slice (some ⟨b2,0,none⟩) 1 1]⟩ gt gz)
 h0:∃f gt gz,H b0=some (f,.cells ⟨[.int .i64 1]⟩ gt gz)
 h1:∃f gt gz,H b1=some (f,.cells ⟨[.int .i64 2,.int .i64 1]⟩ gt gz)
 h2:∃f gt gz,H b2=some (f,.cells ⟨[.int .i64 0]⟩ gt gz)
theorem dL.le {H H':View}{bl b0 b1 b2:Nat}(h:dL H bl b0 b1 b2)(k:H.le H'):dL H' bl b0 b1 b2:=
 ⟨h.h.imp fun _ ⟨gt,gz,e⟩=> ⟨gt,gz,k _ _ e⟩,h.h0.imp fun _ ⟨gt,gz,e⟩=> ⟨gt,gz,k _ _ e⟩,h.h1.imp fun _ ⟨gt,gz,e⟩=> ⟨gt,gz,k _ _ e⟩,h.h2.imp fun _ ⟨gt,gz,e⟩=> ⟨gt,gz,k _ _ e⟩⟩
theorem ZE {H:View}{sz m c b:Nat}{f:Bool}{cs:List Value}{e:TypeId}{fz:Nat×Nat}(hb:H b=some (f,.cells ⟨cs⟩ e fz))(h:cs.length=m*sz):UA H sz (.slice (some ⟨b,0,none⟩) m c) m cs:=
 ⟨⟨_,_,rfl⟩,h,.inr ⟨b,0,c,f,cs,e,fz,rfl,hb,by simp,by simp⟩⟩
theorem vY {H:View}{k:Bk}{bl b0 b1 b2 bt:Nat}(hl:dL H bl b0 b1 b2)(hn:k.nl=3)(KU:k.name=MW)(aB2:k.num=uY)(OZ:k.nf=CZ)(P1:k.free=LW){f:Bool}{gt:TypeId}{gz:Nat×Nat}(ht:H bt=some (f,.cells ⟨QA k.nt (PA k)⟩ gt gz)):
  VB H k (some ⟨bl,0,none⟩) 3 (some ⟨bt,0,none⟩) k.nt (exF b0 b1 b2) CZ:=by
 obtain⟨⟨f1,t1,z1,g1⟩,⟨f2,t2,z2,g2⟩,⟨f3,t3,z3,g3⟩,⟨f4,t4,z4,g4⟩⟩:=hl;refine⟨oM,Nat.le_refl _,?_,ZE ht (wC (f:=PA k) (sz:=4) (fun _=> rfl) k.nt),fun i hi=> by rw[OZ];exact Nat.le_refl _,fun i hi=> ?_⟩
 ·rw[hn];have e:QA 3 (PG k (exF b0 b1 b2) CZ)= [vA [97,110,110],vA [49,50],.slice (some ⟨b0,0,none⟩) 1 1,vA [98,111,98],vA [49,51],.slice (some ⟨b1,0,none⟩) 2 2,vA [101,118,101],vA [50],.slice (some ⟨b2,0,none⟩) 1 1]:=by
   unfold PG;rw[KU,aB2,OZ];rfl
  rw[e];exact ZE g1 rfl
 ·rw[hn] at hi;rw[OZ,P1];rcases(by omega:i=0\/i=1\/i=2) with rfl|rfl|rfl
  ·exact ZE g2 rfl
  ·exact ZE g3 rfl
  ·exact ZE g4 rfl
section
variable(M:Md prog)(H:View)
theorem WU:aA M 118 #[] H (fun v H'=> H.le H'/\∃bl b0 b1 b2,v=.slice (some ⟨bl,0,none⟩) 3 3/\dL H' bl b0 b1 b2):=by
 refine .en func118 ntmps118 fun St c cs hK=> ?_;refine U6 ?_;refine .e (.bs (zz:=fun b0=> ?_));refine U ?_;refine .e (.bs (zz:=fun b1=> ?_));refine U ?_;refine .e (.bs (zz:=fun b2=> ?_));refine U ?_;refine .e (.bs (zz:=fun bl=> ?_));refine U2 ?_;refine .rt hK func118 results118 [_] ?_;exact fun H' hs=> ⟨hs.base,bl,b0,b1,b2,rfl,⟨_,_,_,hs.get (i:=0) rfl⟩,⟨_,_,_,hs.get (i:=3) rfl⟩,⟨_,_,_,hs.get (i:=2) rfl⟩,⟨_,_,_,hs.get (i:=1) rfl⟩⟩
theorem iZ:aA M 47 #[] H (fun v H'=> H.le H'/\∃A lc B tc F fc,v=AE.val A lc B tc/\VB H' AE A lc B tc F fc):=by
 refine .en func47 ntmps47 fun St c cs hK=> ?_;refine U2 ?_;refine .al fun b0=> ?_;refine U3 ?_;refine To.sB rfl rfl rfl rfl rfl rfl dE (CB.h (WU M H)) (fun v H₁ hv=> ?_);obtain⟨hle,bl,c0,c1,c2,rfl,hl⟩:=hv;refine .cl (fun H hs=> yO M H 1 8) ?_;refine .cl (fun H hs=> Z0 M H 2 3) ?_;refine .cl (fun H hs=> Z0 M H 6 6) ?_;refine U ?_;refine .e (.bs (zz:=fun bt=> ?_));refine U3 ?_;refine .rt hK func47 results47 [_] ?_;exact fun H' hs=> ⟨View.le_trans hle hs.base,_,_,some ⟨bt,0,none⟩,_,_,_,rfl,vY (hl.le hs.base) rfl rfl rfl rfl rfl (hs.get (i:=0) rfl)⟩
theorem R5:aA M 48 #[] H (fun v H'=> H.le H'/\∃A lc B tc F fc,v=DF.val A lc B tc/\VB H' DF A lc B tc F fc):=by
 refine .en func48 ntmps48 fun St c cs hK=> ?_;refine U2 ?_;refine .al fun b0=> ?_;refine U3 ?_;refine To.sB rfl rfl rfl rfl rfl rfl dE (CB.h (WU M H)) (fun v H₁ hv=> ?_);obtain⟨hle,bl,c0,c1,c2,rfl,hl⟩:=hv;refine .cl (fun H hs=> Z0 M H 1 1) ?_;refine .cl (fun H hs=> Z0 M H 3 6) ?_;refine U ?_;refine .cl (fun H hs=> yO M H 1 9) ?_;refine .cl (fun H hs=> yO M H 2 9) ?_;refine .e (.bs (zz:=fun bt=> ?_));refine U3 ?_;refine .rt hK func48 results48 [_] ?_;exact fun H' hs=> ⟨View.le_trans hle hs.base,_,_,some ⟨bt,0,none⟩,_,_,_,rfl,vY (hl.le hs.base) rfl rfl rfl rfl rfl (hs.get (i:=0) rfl)⟩
end
theorem tG:AE.VA=0:=by decide +kernel
theorem WR:DF.VA=0:=by decide +kernel
theorem aBB:XR.VA=0:=by decide +kernel
theorem UO {k:Bk}(hn:k.nl=3)(ht:k.nt<=1000)(aB2:k.num=uY)(OZ:k.nf=CZ):k.small:=⟨oM,ht,fun i hi=> by
 rw[hn] at hi;rw[aB2,OZ];rcases(by omega:i=0\/i=1\/i=2) with rfl|rfl|rfl <;> decide⟩
end Go.Proofs.YtldmfjcgjdchcaaGreatDoor
namespace Go.Proofs.YtldmfjcgjdchcaaGreatDoor
open Go.RL Go.Proofs.Tryz Go.Conc
set_option maxRecDepth 10000
theorem aFM:xH prog 198 (Extern.Race.marked .releaseMerge):=⟨Tryz.f198,func198,by kernel_rfl,by kernel_rfl,by kernel_rfl,by kernel_rfl⟩
theorem aBM:xH prog 199 Q9:=⟨Tryz.f199,func199,by kernel_rfl,by kernel_rfl,by kernel_rfl,by kernel_rfl⟩
theorem xZ:xH prog 200 enE:=⟨Tryz.f200,func200,by kernel_rfl,by kernel_rfl,by kernel_rfl,by kernel_rfl⟩
theorem aEl:xH prog 201 (fun _=> pure (.bool false)):=⟨Tryz.f201,func201,by kernel_rfl,by kernel_rfl,by kernel_rfl,by kernel_rfl⟩
theorem aFN:xH prog 206 (Extern.Race.marked .read):=⟨Tryz.f206,func206,by kernel_rfl,by kernel_rfl,by kernel_rfl,by kernel_rfl⟩
theorem aFO:xH prog 210 Extern.Sync.semrelease:=⟨Tryz.f210,func210,by kernel_rfl,by kernel_rfl,by kernel_rfl,by kernel_rfl⟩
theorem aEm:xH prog 211 (Extern.Race.marked .acquire):=⟨Tryz.f211,func211,by kernel_rfl,by kernel_rfl,by kernel_rfl,by kernel_rfl⟩
theorem aFP:xH prog 214 (Extern.Race.marked .write):=⟨Tryz.f214,func214,by kernel_rfl,by kernel_rfl,by kernel_rfl,by kernel_rfl⟩
theorem aFQ:xH prog 215 Extern.Sync.semacquire:=⟨Tryz.f215,func215,by kernel_rfl,by kernel_rfl,by kernel_rfl,by kernel_rfl⟩
theorem aEn:xH prog 268 (Extern.Atomic.update (Op.intArith .add) .u64 true):=⟨Tryz.f268,func268,by kernel_rfl,by kernel_rfl,by kernel_rfl,by kernel_rfl⟩
theorem aBN:xH prog 269 (Extern.Atomic.loadT (.int .u64)):=⟨Tryz.f269,func269,by kernel_rfl,by kernel_rfl,by kernel_rfl,by kernel_rfl⟩
theorem aFR:xH prog 270 Extern.Atomic.storeT:=⟨Tryz.f270,func270,by kernel_rfl,by kernel_rfl,by kernel_rfl,by kernel_rfl⟩
theorem aFS:xH prog 271 (Extern.Atomic.casT (.int .u64)):=⟨Tryz.f271,func271,by kernel_rfl,by kernel_rfl,by kernel_rfl,by kernel_rfl⟩
theorem vG:BM prog 233 1=some 0:=by kernel_rfl
theorem rL:BM prog 233 2=some 1:=by kernel_rfl
theorem qL:BM prog 230 2=some 0:=by kernel_rfl
theorem YX:prog.underlying 303=some (.pointer 233):=by kernel_rfl
theorem eQ:prog.underlying 305=some .unsafePointer:=by kernel_rfl
theorem R7:prog.underlying 310=some (.pointer 231):=by kernel_rfl
theorem aAW:prog.underlying 3=some (.int .i64):=by kernel_rfl
theorem BR:prog.underlying 21=some (.int .i32):=by kernel_rfl
theorem oT:prog.underlying 231=some (.int .u32):=by kernel_rfl
theorem sH:prog.underlying 228=some (.int .u64):=by kernel_rfl
theorem SX:(prog.info? 233).map (·.size)=some (1+1):=by kernel_rfl
theorem F7:(prog.info? 231).map (·.size)=some (0+1):=by kernel_rfl
end Go.Proofs.YtldmfjcgjdchcaaGreatDoor
namespace Go.Proofs.YtldmfjcgjdchcaaGreatDoor
open Go.RL Go.Proofs.Tryz Go.Conc Go.ConcN Go.RL.Au
open Go.ConcR (stA smA)
open Go.ConcM (OsLater)
set_option maxRecDepth 10000
section
variable {main:Bool}{sh:Z8}{J:Goroutine->Prop}{K:Value->(Goroutine->Prop)->Prop}{blk off:Nat}
def KC(main:Bool)(K:Value->(Goroutine->Prop)->Prop):Prop:=∀v J',K v J'->∃sh',Cl prog main sh' J'
theorem aA1 {d:Int}(hc:Cl prog main sh J)(hk:KC main K)(h:FI J 268 [.pointer (some ⟨blk,off,none⟩),.int .u64 d] K):FI J 205 [.pointer (some ⟨blk,off,none⟩),.int .u64 d] K:=by
 refine tT.at (by exact hc) aD8 (tT.enter (vs:= [.pointer (some ⟨blk,off,none⟩),.int .u64 d]) func205 rfl ntmps205 (Nat.le_of_ble_eq_true rfl) fun c cs hK=> ?_);refine .sq (.rg rfl rfl ?_);refine .g ?_;refine .dn (.sq (.rg rfl rfl ?_));refine .m ?_;refine .x .nk ?_;refine .x (.fa (zz:=qL)) ?_;refine .m ?_;refine So.bD rfl rfl rfl nofun rfl (.mk' rfl) rfl (h) ?_;intro v J' hv;obtain⟨sh',hc⟩:=hk v J' hv;refine .g ?_;refine .dn ?_;refine Sc.iE (by exact hc) rfl (Sb.leave (by exact hc) func205 rfl (by exact .inr ⟨_,results205,rfl⟩) ?_);exact hK v J' hv
theorem wX(hc:Cl prog main sh J)(hk:KC main K)(h:FI J 269 [.pointer (some ⟨blk,off,none⟩)] K):FI J 207 [.pointer (some ⟨blk,off,none⟩)] K:=by
 refine tT.at (by exact hc) aD9 (tT.enter (vs:= [.pointer (some ⟨blk,off,none⟩)]) func207 rfl ntmps207 (Nat.le_of_ble_eq_true rfl) fun c cs hK=> ?_);refine .sq (.rg rfl rfl ?_);refine .g ?_;refine .dn (.sq (.rg rfl rfl ?_));refine .m ?_;refine .x .nk ?_;refine .x (.fa (zz:=qL)) ?_;refine So.bD rfl rfl rfl nofun rfl (.mk' rfl) rfl (h) ?_;intro v J' hv;obtain⟨sh',hc⟩:=hk v J' hv;refine .g ?_;refine .dn ?_;refine Sc.iE (by exact hc) rfl (Sb.leave (by exact hc) func207 rfl (by exact .inr ⟨_,results207,rfl⟩) ?_);exact hK v J' hv
theorem aAQ {d:Int}(hc:Cl prog main sh J)(hk:KC main K)(hu:∀v J',K v J'->v=.tuple #[])(h:FI J 270 [.pointer (some ⟨blk,off,none⟩),.int .u64 d] K):FI J 208 [.pointer (some ⟨blk,off,none⟩),.int .u64 d] K:=by
 refine tT.at (by exact hc) aEa (tT.enter (vs:= [.pointer (some ⟨blk,off,none⟩),.int .u64 d]) func208 rfl ntmps208 (Nat.le_of_ble_eq_true rfl) fun c cs hK=> ?_);refine .rg rfl rfl ?_;refine .m ?_;refine .x .nk ?_;refine .x (.fa (zz:=qL)) ?_;refine .m ?_;refine So.bD rfl rfl rfl nofun rfl (.mk' rfl) rfl (h) ?_;intro v J' hv;obtain⟨sh',hc⟩:=hk v J' hv;refine .dn ?_;refine Sc.over (by exact hc) rfl (Sb.leave (by exact hc) func208 rfl (by exact .inl ⟨results208,rfl⟩) ?_);exact hu v J' hv▸hK v J' hv
theorem aEi {d e:Int}(hc:Cl prog main sh J)(hk:KC main K)(h:FI J 271 [.pointer (some ⟨blk,off,none⟩),.int .u64 d,.int .u64 e] K):FI J 213 [.pointer (some ⟨blk,off,none⟩),.int .u64 d,.int .u64 e] K:=by
 refine tT.at (by exact hc) aEb (tT.enter (vs:= [.pointer (some ⟨blk,off,none⟩),.int .u64 d,.int .u64 e]) func213 rfl ntmps213 (Nat.le_of_ble_eq_true rfl) fun c cs hK=> ?_);refine .sq (.rg rfl rfl ?_);refine .g ?_;refine .dn (.sq (.rg rfl rfl ?_));refine .m ?_;refine .x .nk ?_;refine .x (.fa (zz:=qL)) ?_;refine .m ?_;refine .m ?_;refine So.bD rfl rfl rfl nofun rfl (.mk' rfl) rfl (h) ?_;intro v J' hv;obtain⟨sh',hc⟩:=hk v J' hv;refine .g ?_;refine .dn ?_;refine Sc.iE (by exact hc) rfl (Sb.leave (by exact hc) func213 rfl (by exact .inr ⟨_,results213,rfl⟩) ?_);exact hK v J' hv
end
set_option maxHeartbeats 1000000
theorem rS:∀a:Nat,a<8->∀b:Nat,b<2->OI .and .u64 ((a*4294967296+b:Nat):Int) 2147483648=0:=by decide +kernel
theorem sS:∀a:Nat,a<8->∀b:Nat,b<2->OI .and .u64 ((a*4294967296+b:Nat):Int) 2147483647=(b:Int):=by decide +kernel
theorem tS:∀a:Nat,a<8->∀b:Nat,b<2->((a*4294967296+b:Nat):Int).fdiv (2 ^ (min (32:Int).toNat IntKind.u64.bits))=(a:Int):=by decide +kernel
theorem aDU:IntKind.u64.wrap (-1)=18446744073709551615:=by decide +kernel
theorem aAL:qC .shl .u64 18446744073709551615 32=some (.int .u64 18446744069414584320):=by
 show some (Value.int .u64 (IntKind.u64.wrap (18446744073709551615*2 ^ (min (32:Int).toNat IntKind.u64.bits))))=_;rw[show IntKind.u64.wrap (18446744073709551615*2 ^ (min (32:Int).toNat IntKind.u64.bits))=18446744069414584320 by decide +kernel]
theorem aFy:IntKind.u64.wrap 1=1:=by decide +kernel
theorem aDI:qC .shl .u64 1 32=some (.int .u64 4294967296):=by
 show some (Value.int .u64 (IntKind.u64.wrap (1*2 ^ (min (32:Int).toNat IntKind.u64.bits))))=_;rw[show IntKind.u64.wrap (1*2 ^ (min (32:Int).toNat IntKind.u64.bits))=4294967296 by decide +kernel]
theorem bY:IntKind.i32.wrap (-1)= -1:=by decide +kernel
theorem gZ:∀a:Nat,a<8->IntKind.i32.wrap (a:Int)=(a:Int):=by decide +kernel
theorem sT:∀a:Nat,a<8->IntKind.u32.wrap (a:Int)=(a:Int):=by decide +kernel
section
variable {X:Fk}{κ:Nat}{H:View}{cc:Frame}{cs:List Frame}
theorem OP(X:Fk):∃e c,X.shp X.Wg=some (e,c)/\0<c:=⟨X.tW,2,by simp[Fk.shp],by decide⟩
theorem YY(X:Fk):∃e c,X.shp X.Wg=some (e,c)/\0+1<c:=⟨X.tW,2,by simp[Fk.shp],by decide⟩
theorem kw {K:Value->Th->Prop}{k:Nat}:KC false (fun v J'=> ∃k' t',k'<k/\K v t'/\J'=Jw prog X κ k' t' H):=fun _ _ ⟨_,_,_,_,h⟩=> ⟨_,h▸Jw.UN⟩
noncomputable def aBy:Code:=cR (cR (cR (cR (uM Tryz.f124))))
abbrev aBA:FB:=⟨124,.normal,none⟩
attribute [local irreducible] IntKind.wrap OI Int.fdiv in
theorem aBK {a b:Nat}(ha:a<8)(hb:b<2)(hq:¬(a=0/\b=1))(hK:Jq prog 0 (G (cc.finish (.tuple #[])) cs)){R:Rg}
  (hR:OB [(0,.pointer (some ⟨X.Wg,0,none⟩)),(1,.int .i64 (-1)),(4,.bool false),(6,.int .u64 ((a*4294967296+b:Nat):Int))] R):
  Sc (Jq prog 1) 117 aBA (cc::cs) R [dcall 200 #[]] [.code aBy]:=by
 refine Sc.drop hR ?_;have gM:=OP X;have f3:=bY;have g1:rA .and .u64 ((a*4294967296+b:Nat):Int) 2147483648=some (.int .u64 0):=by rw[<-rS a oM b oM];rfl
 have g2:rA .and .u64 ((a*4294967296+b:Nat):Int) 2147483647=some (.int .u64 (b:Int)):=by rw[<-sS a oM b oM];rfl
 have g3:qC .shr .u64 ((a*4294967296+b:Nat):Int) 32=some (.int .u64 (a:Int)):=by rw[<-tS a oM b oM];rfl
 have g4:=gZ a oM;have g5:=sT b oM;rcases Nat.eq_zero_or_pos a with aB6|aB6;all_goals rcases Nat.eq_zero_or_pos b with aEH|aEH
 all_goals first
  | (exfalso;omega)
  | (
   refine .sq (.sq (.rg rfl rfl ?_));refine .m ?_;refine .i ?_ (z:=by assumption);refine .i ?_ (z:=ZG oM);refine .m ?_;refine .sk ?_;refine .sk ?_;refine .x .pk ?_;refine .dn (.ff rfl (.sp (.sq ?_)));refine Sc.drop (R':= [(0,.pointer (some ⟨X.Wg,0,none⟩)),(1,.int .i64 (-1)),(4,.bool false),(6,.int .u64 ((a*4294967296+b:Nat):Int))]) ⟨rfl,rfl,rfl,rfl,trivial⟩ ?_;refine .rg rfl rfl ?_;refine .m ?_;refine .x (ED.shift rfl rfl rfl oM (by assumption)) ?_;refine .x (ED.conv rfl rfl sH BR (by assumption)) ?_;refine .g ?_;refine .dn (.sq ?_);refine Sc.drop (R':= [(0,.pointer (some ⟨X.Wg,0,none⟩)),(1,.int .i64 (-1)),(6,.int .u64 ((a*4294967296+b:Nat):Int)),(7,.int .i32 (a:Int))]) ⟨rfl,rfl,rfl,rfl,trivial⟩ ?_;refine .rg rfl rfl ?_;refine .m ?_;refine .i ?_ (z:=by assumption);refine .x (ED.conv rfl rfl sH oT (by assumption)) ?_;refine .g ?_;refine .dn (.sq (.sq ?_));refine Sc.drop (R':= [(0,.pointer (some ⟨X.Wg,0,none⟩)),(1,.int .i64 (-1)),(7,.int .i32 (a:Int)),(8,.int .u32 (b:Int))]) ⟨rfl,rfl,rfl,rfl,trivial⟩ ?_;refine .rg rfl rfl ?_;refine .m ?_;refine .m ?_;refine .i ?_ (z:=aJ oM);refine .x .pk ?_;refine .m ?_;refine .sk ?_;refine .sk ?_;refine .sk ?_;refine .sk ?_;refine .x .pk ?_;refine .dn (.ff rfl (.sp (.sq (.sq ?_))));refine Sc.drop (R':= [(0,.pointer (some ⟨X.Wg,0,none⟩)),(1,.int .i64 (-1)),(7,.int .i32 (a:Int)),(8,.int .u32 (b:Int))]) ⟨rfl,rfl,rfl,rfl,trivial⟩ ?_;refine .rg rfl rfl ?_;refine .m ?_;refine .i ?_ (z:=lJ oM);refine .dn (.ff rfl (.sp (.sq (.sq ?_))));refine Sc.drop (R':= [(0,.pointer (some ⟨X.Wg,0,none⟩)),(1,.int .i64 (-1)),(7,.int .i32 (a:Int)),(8,.int .u32 (b:Int))]) ⟨rfl,rfl,rfl,rfl,trivial⟩ ?_;refine .rg rfl rfl ?_;refine .m ?_;refine .i ?_ (z:=by first|exact gV oM|exact ZG oM);refine .m ?_;first|(refine .sk ?_)|(refine .m ?_)
   first|(refine .sk ?_)|(refine .x (.it (zz:=aJ oM)) ?_)
   refine .x .pk ?_;refine .m ?_;refine .sk ?_;refine .sk ?_;refine .sk ?_;refine .sk ?_;refine .x .pk ?_;refine .dn (.ff rfl (.sp (.sq (.sq ?_))));refine Sc.drop (R':= [(0,.pointer (some ⟨X.Wg,0,none⟩)),(1,.int .i64 (-1)),(7,.int .i32 (a:Int)),(8,.int .u32 (b:Int))]) ⟨rfl,rfl,rfl,rfl,trivial⟩ ?_;refine .rg rfl rfl ?_;refine .m ?_;refine .i ?_ (z:=by first|exact sK oM|exact aJ oM);refine .m ?_;first|(refine .sk ?_)|(refine .m ?_)
   first|(refine .sk ?_)|(refine .x (.it (zz:=sN oM)) ?_)
   refine .x .pk ?_;refine .dn (.tt rfl ?_);refine Sc.iE Jq.cl rfl (Jq.en xZ rfl (Sb.leave Jq.cl func124 rfl (.inl ⟨results124,rfl⟩) hK)))
noncomputable def aFI:Code:=cR (cR (cR (cR (cR (cR (cR aBy))))))
attribute [local irreducible] IntKind.wrap OI Int.fdiv in
theorem R9 {a b k:Nat}(a0:a=0)(b1:b=1)(hK:Jq prog 0 (G (cc.finish (.tuple #[])) cs)){R:Rg}
  (hR:OB [(0,.pointer (some ⟨X.Wg,0,none⟩)),(4,.bool false),(6,.int .u64 ((a*4294967296+b:Nat):Int)),(8,.int .u32 (b:Int))] R):Sc (Jw prog X κ k .d2 H) 117 aBA (cc::cs) R [dcall 200 #[]] [.code aFI]:=by
 refine Sc.drop hR ?_;have gM:=OP X;have g6:rA .sub .u32 (b:Int) 1=some (.int .u32 0):=by
  rw[b1];exact congrArg (fun x=> some (Value.int .u32 x)) (show IntKind.u32.wrap (((1:Nat):Int)-1)=0 by decide +kernel)
 have g7:rA .neq .u64 1 ((a*4294967296+b:Nat):Int)=some (.bool false):=ZG oM;refine .sq (.sq (.rg rfl rfl ?_));refine .m ?_;refine .x .nk ?_;refine .x (.fa (zz:=vG)) ?_;refine So.bD rfl rfl rfl nofun rfl (.mk' rfl) rfl (wX Jw.UN kw (Jw.d2 aBN)) ?_;rintro v J' ⟨k5,t,hk5,⟨rfl,rfl⟩,rfl⟩;refine .m ?_;refine .i ?_ (z:=by assumption);refine .dn (.ff rfl (.sp (.sq ?_)));refine Sc.drop (R':= [(0,.pointer (some ⟨X.Wg,0,none⟩)),(4,.bool false),(6,.int .u64 ((a*4294967296+b:Nat):Int)),(8,.int .u32 (b:Int))]) ⟨rfl,rfl,rfl,rfl,trivial⟩ ?_;refine .rg rfl rfl ?_;refine .m ?_;refine .x .nk ?_;refine .x (.fa (zz:=vG)) ?_;refine So.bD rfl rfl rfl nofun rfl (.mk' rfl) rfl (aAQ Jw.UN kw (fun v J' ⟨_,_,_,h,_⟩=> h.1) (Jw.d3 aFR)) ?_;rintro v J' ⟨k6,t,hk6,⟨rfl,rfl⟩,rfl⟩;refine .dn (.sq (.sq ?_));refine Sc.drop (R':= [(0,.pointer (some ⟨X.Wg,0,none⟩)),(4,.bool false),(6,.int .u64 ((a*4294967296+b:Nat):Int)),(8,.int .u32 (b:Int))]) ⟨rfl,rfl,rfl,rfl,trivial⟩ ?_;refine .rg rfl rfl ?_;refine .m ?_;refine .dn (.ff rfl (.sp (.bl ?_)));refine Sc.loop (by exact Jw.UN) ?_;refine .sq (.sq (.rg rfl rfl ?_));refine .m ?_;refine .i ?_ (z:=gV oM);refine .dn (.tt rfl (.sp (.sq (.bl ?_))));refine Sc.drop (R':= [(0,.pointer (some ⟨X.Wg,0,none⟩)),(4,.bool false),(6,.int .u64 ((a*4294967296+b:Nat):Int)),(8,.int .u32 (b:Int))]) ⟨rfl,rfl,rfl,rfl,trivial⟩ ?_;refine .rg rfl rfl ?_;refine .m ?_;refine .x .nk ?_;refine .x (.fa (zz:=rL)) ?_;refine So.bD rfl rfl rfl nofun rfl (.mk' rfl) rfl (Jw.d4 (vs:= [.pointer (some ⟨X.Wg,1,none⟩),.bool false,.int .i64 0]) aFO rfl) ?_;rintro v J' ⟨k7,t,hk7,⟨rfl,rfl⟩,rfl⟩;refine So.mono ?_ (fun g=> Jq.jw);refine .dn (.ib ?_);refine Sc.drop (R':= [(0,.pointer (some ⟨X.Wg,0,none⟩)),(4,.bool false),(6,.int .u64 ((a*4294967296+b:Nat):Int)),(8,.int .u32 (b:Int))]) ⟨rfl,rfl,rfl,rfl,trivial⟩ ?_;refine .rg rfl rfl ?_;refine .m ?_;refine .i ?_ (z:=by assumption);refine .g ?_;refine .dn ?_;refine Sc.inLoop (by exact Jq.cl) ?_;refine Sc.drop (R':= [(8,.int .u32 0)]) ⟨rfl,trivial⟩ ?_;refine .sq (.sq (.rg rfl rfl ?_));refine .m ?_;refine .i ?_ (z:=ZG oM);refine .dn (.ff rfl (.xt rfl ?_));refine Sc.over Jq.cl rfl (Jq.en xZ rfl (Sb.leave Jq.cl func124 rfl (.inl ⟨results124,rfl⟩) hK))
attribute [local irreducible] IntKind.wrap OI Int.fdiv in
theorem aBJ {a b k:Nat}(a0:a=0)(b1:b=1)(hK:Jq prog 0 (G (cc.finish (.tuple #[])) cs)){R:Rg}
  (hR:OB [(0,.pointer (some ⟨X.Wg,0,none⟩)),(1,.int .i64 (-1)),(4,.bool false),(6,.int .u64 ((a*4294967296+b:Nat):Int))] R):Sc (Jw prog X κ k .d2 H) 117 aBA (cc::cs) R [dcall 200 #[]] [.code aBy]:=by
 refine Sc.drop hR ?_;have gM:=OP X;have f3:=bY;have g1:rA .and .u64 ((a*4294967296+b:Nat):Int) 2147483648=some (.int .u64 0):=by rw[<-rS a oM b oM];rfl
 have g2:rA .and .u64 ((a*4294967296+b:Nat):Int) 2147483647=some (.int .u64 (b:Int)):=by rw[<-sS a oM b oM];rfl
 have g3:qC .shr .u64 ((a*4294967296+b:Nat):Int) 32=some (.int .u64 (a:Int)):=by rw[<-tS a oM b oM];rfl
 have g4:=gZ a oM;have g5:=sT b oM;refine .sq (.sq (.rg rfl rfl ?_));refine .m ?_;refine .i ?_ (z:=by assumption);refine .i ?_ (z:=ZG oM);refine .m ?_;refine .sk ?_;refine .sk ?_;refine .x .pk ?_;refine .dn (.ff rfl (.sp (.sq ?_)));refine Sc.drop (R':= [(0,.pointer (some ⟨X.Wg,0,none⟩)),(1,.int .i64 (-1)),(4,.bool false),(6,.int .u64 ((a*4294967296+b:Nat):Int))]) ⟨rfl,rfl,rfl,rfl,trivial⟩ ?_;refine .rg rfl rfl ?_;refine .m ?_;refine .x (ED.shift rfl rfl rfl oM (by assumption)) ?_;refine .x (ED.conv rfl rfl sH BR (by assumption)) ?_;refine .g ?_;refine .dn (.sq ?_);refine Sc.drop (R':= [(0,.pointer (some ⟨X.Wg,0,none⟩)),(1,.int .i64 (-1)),(4,.bool false),(6,.int .u64 ((a*4294967296+b:Nat):Int)),(7,.int .i32 (a:Int))]) ⟨rfl,rfl,rfl,rfl,rfl,trivial⟩ ?_;refine .rg rfl rfl ?_;refine .m ?_;refine .i ?_ (z:=by assumption);refine .x (ED.conv rfl rfl sH oT (by assumption)) ?_;refine .g ?_;refine .dn (.sq (.sq ?_));refine Sc.drop (R':= [(0,.pointer (some ⟨X.Wg,0,none⟩)),(1,.int .i64 (-1)),(4,.bool false),(6,.int .u64 ((a*4294967296+b:Nat):Int)),(7,.int .i32 (a:Int)),(8,.int .u32 (b:Int))]) ⟨rfl,rfl,rfl,rfl,rfl,rfl,trivial⟩ ?_;refine .rg rfl rfl ?_;refine .m ?_;refine .m ?_;refine .i ?_ (z:=aJ oM);refine .x .pk ?_;refine .m ?_;refine .sk ?_;refine .sk ?_;refine .sk ?_;refine .sk ?_;refine .x .pk ?_;refine .dn (.ff rfl (.sp (.sq (.sq ?_))));refine Sc.drop (R':= [(0,.pointer (some ⟨X.Wg,0,none⟩)),(1,.int .i64 (-1)),(4,.bool false),(6,.int .u64 ((a*4294967296+b:Nat):Int)),(7,.int .i32 (a:Int)),(8,.int .u32 (b:Int))]) ⟨rfl,rfl,rfl,rfl,rfl,rfl,trivial⟩ ?_;refine .rg rfl rfl ?_;refine .m ?_;refine .i ?_ (z:=lJ oM);refine .dn (.ff rfl (.sp (.sq (.sq ?_))));refine Sc.drop (R':= [(0,.pointer (some ⟨X.Wg,0,none⟩)),(1,.int .i64 (-1)),(4,.bool false),(6,.int .u64 ((a*4294967296+b:Nat):Int)),(7,.int .i32 (a:Int)),(8,.int .u32 (b:Int))]) ⟨rfl,rfl,rfl,rfl,rfl,rfl,trivial⟩ ?_;refine .rg rfl rfl ?_;refine .m ?_;refine .i ?_ (z:=gV oM);refine .m ?_;refine .m ?_;refine .i ?_ (z:=aJ oM);refine .x .pk ?_;refine .m ?_;refine .sk ?_;refine .sk ?_;refine .sk ?_;refine .sk ?_;refine .x .pk ?_;refine .dn (.ff rfl (.sp (.sq (.sq ?_))));refine Sc.drop (R':= [(0,.pointer (some ⟨X.Wg,0,none⟩)),(1,.int .i64 (-1)),(4,.bool false),(6,.int .u64 ((a*4294967296+b:Nat):Int)),(7,.int .i32 (a:Int)),(8,.int .u32 (b:Int))]) ⟨rfl,rfl,rfl,rfl,rfl,rfl,trivial⟩ ?_;refine .rg rfl rfl ?_;refine .m ?_;refine .i ?_ (z:=aJ oM);refine .m ?_;refine .m ?_;refine .i ?_ (z:=WQ oM);refine .x .pk ?_;refine .dn (.ff rfl (.sp ?_));exact R9 a0 b1 hK ⟨rfl,rfl,rfl,rfl,trivial⟩
attribute [local irreducible] IntKind.wrap OI Int.fdiv in
theorem S9 {k:Nat}:FI (Jw prog X κ k .wr H) 124 [.pointer (some ⟨X.Wg,0,none⟩),.int .i64 (-1)] fun v J'=> v=.tuple #[]/\J'=Jq prog 0:=by
 refine tT.at (by exact Jw.AW rfl) aA4 (tT.enter (vs:= [.pointer (some ⟨X.Wg,0,none⟩),.int .i64 (-1)]) func124 rfl ntmps124 (Nat.le_of_ble_eq_true rfl) fun c cs hK=> ?_);have gM:=OP X;have f1:=aDU;have f2:=aAL;have f3:=bY;refine .sq (.tt rfl (.sq (.sq (.rg rfl rfl ?_))));refine .m ?_;refine .i ?_ (z:=DN oM);refine .dn (.tt rfl (.rg rfl rfl ?_));refine .m ?_;refine .x (ED.raw rfl rfl YX eQ SX (by assumption)) ?_;refine So.bD rfl rfl rfl nofun rfl (.mk' rfl) rfl (Jw.wr aFM) ?_;rintro v J' ⟨rfl,k1,E8,rfl⟩;refine .dn (.sq (.rg rfl rfl ?_));refine So.bD rfl rfl rfl nofun rfl (.mk' rfl) rfl (Jw.wk aBM) ?_;rintro v J' ⟨k2,t,EU,⟨rfl,rfl⟩,rfl⟩;refine .dn (.rg rfl rfl ?_);refine So.defer Jw.UN (f:=200) (vs:= []) rfl nofun rfl rfl ⟨_,rfl⟩ rfl ?_;refine .dn (.sq ?_);refine Sc.drop (R':= [(0,.pointer (some ⟨X.Wg,0,none⟩)),(1,.int .i64 (-1))]) ⟨rfl,rfl,trivial⟩ ?_;refine .rg rfl rfl ?_;refine .g ?_;refine .dn (.sq (.sq (.rg rfl rfl ?_)));refine So.bD rfl rfl rfl nofun rfl (.mk' rfl) rfl (Jw.wi aEl) ?_;rintro v J' ⟨k3,t,hk3,⟨rfl,rfl⟩,rfl⟩;refine .dn (.ff rfl (.sp (.sq ?_)));refine Sc.drop (R':= [(0,.pointer (some ⟨X.Wg,0,none⟩)),(1,.int .i64 (-1)),(4,.bool false)]) ⟨rfl,rfl,rfl,trivial⟩ ?_;refine .rg rfl rfl ?_;refine .m ?_;refine .x .nk ?_;refine .x (.fa (zz:=vG)) ?_;refine .m ?_;refine .x (ED.conv rfl rfl aAW sH (by assumption)) ?_;refine .x (ED.shift rfl rfl rfl oM (by assumption)) ?_;refine So.bD rfl rfl rfl nofun rfl (.mk' rfl) rfl (aA1 Jw.UN kw (Jw.d1 aEn)) ?_;rintro v J' ⟨k4,t,hk4,⟨a,b,ha,hb,rfl,rfl⟩,rfl⟩;by_cases hq:a=0/\b=1
 ·rw[if_pos hq];refine .g ?_;refine .dn ?_;exact aBJ hq.1 hq.2 (hK _ _ ⟨rfl,rfl⟩) ⟨rfl,rfl,rfl,rfl,trivial⟩
 ·rw[if_neg hq];refine So.mono ?_ (fun g=> Jq.jw);refine .g ?_;refine .dn ?_;exact aBK oM oM hq (hK _ _ ⟨rfl,rfl⟩) ⟨rfl,rfl,rfl,rfl,trivial⟩
theorem aBL {k n:Nat}{b:FB}{R:Rg}{ds:List Deferred}(hb:b.rd=none)
  (h:Sb (Jq prog 0) n b cs R ds):Sb (Jw prog X κ k .wr H) n b cs R (dcall 126 #[.pointer (some ⟨X.Wg,0,none⟩)]::ds):=by
 refine Sb.aBO (vs:= [.pointer (some ⟨X.Wg,0,none⟩)]) Jw.UN hb func126 kR rfl ntmps126 (Nat.le_of_ble_eq_true rfl) fun c hm hc=> ?_;refine .rg rfl rfl ?_;refine .m ?_;refine So.bD rfl rfl rfl nofun rfl (.mk' rfl) rfl (S9) ?_;rintro v J' ⟨rfl,rfl⟩;refine .dn ?_;refine Sc.over Jq.cl rfl (Sb.leaveD Jq.cl func126 rfl results126 (.inl hm) (hc _ h))
end
section
variable {X:Fk}{H:View}{Fin:Goroutine->Prop}{j:Nat}{cc:Frame}{cs:List Frame}
theorem km {K:Value->Mn->Prop}{k:Nat}:KC true (fun v J'=> ∃k' m',k'<k/\K v m'/\J'=Jm prog X Fin k' m' j H):=fun _ _ ⟨_,_,_,_,h⟩=> ⟨_,h▸Jm.cl⟩
theorem aFx:IntKind.i32.wrap 1=1:=by decide +kernel
attribute [local irreducible] IntKind.wrap OI Int.fdiv in
theorem A3 {k:Nat}:FI (Jm prog X Fin k .kd j H) 124 [.pointer (some ⟨X.Wg,0,none⟩),.int .i64 1] fun v J'=> v=.tuple #[]/\∃k',J'=Jm prog X Fin k' .go j H:=by
 refine tT.at (by exact Jm.cl) aA4 (tT.enter (vs:= [.pointer (some ⟨X.Wg,0,none⟩),.int .i64 1]) func124 rfl ntmps124 (Nat.le_of_ble_eq_true rfl) fun c cs hK=> ?_);have gM:=YY X;have f1:=aFy;have f2:=aDI;have f3:=aFx;refine .sq (.tt rfl (.sq (.sq (.rg rfl rfl ?_))));refine .m ?_;refine .i ?_ (z:=lJ oM);refine .dn (.ff rfl (.sp (.sq (.rg rfl rfl ?_))));refine So.bD rfl rfl rfl nofun rfl (.mk' rfl) rfl (Jm.kd aBM) ?_;rintro v J' ⟨k2,t,EU,⟨rfl,rfl⟩,rfl⟩;refine .dn (.rg rfl rfl ?_);refine So.defer Jm.cl (f:=200) (vs:= []) rfl nofun rfl rfl ⟨_,rfl⟩ rfl ?_;refine .dn (.sq (.rg rfl rfl ?_));refine .g ?_;refine .dn (.sq (.sq (.rg rfl rfl ?_)));refine So.bD rfl rfl rfl nofun rfl (.mk' rfl) rfl (Jm.ki aEl) ?_;rintro v J' ⟨k3,t,hk3,⟨rfl,rfl⟩,rfl⟩;refine .dn (.ff rfl (.sp (.sq (.rg rfl rfl ?_))));refine .m ?_;refine .x .nk ?_;refine .x (.fa (zz:=vG)) ?_;refine .m ?_;refine .x (ED.conv rfl rfl aAW sH (by assumption)) ?_;refine .x (ED.shift rfl rfl rfl oM (by assumption)) ?_;refine So.bD rfl rfl rfl nofun rfl (.mk' rfl) rfl (aA1 Jm.cl km (Jm.ka aEn)) ?_;rintro v J' ⟨k4,t,hk4,⟨a,ha,rfl,rfl⟩,rfl⟩;have e0:(((a+1)*4294967296:Nat):Int)=(((a+1)*4294967296+0:Nat):Int):=(congrArg (fun x:Nat=> (x:Int)) (Nat.add_zero _)).symm;have g1:rA .and .u64 (((a+1)*4294967296:Nat):Int) 2147483648=some (.int .u64 0):=by rw[e0,<-rS (a+1) oM 0 oM];rfl
 have g2:rA .and .u64 (((a+1)*4294967296:Nat):Int) 2147483647=some (.int .u64 0):=by
  have:=sS (a+1) oM 0 oM;rw[e0];exact congrArg (fun x=> some (Value.int .u64 x)) this
 have g3:qC .shr .u64 (((a+1)*4294967296:Nat):Int) 32=some (.int .u64 ((a+1:Nat):Int)):=by rw[e0,<-tS (a+1) oM 0 oM];rfl
 have g4:=gZ (a+1) oM;have g5:IntKind.u32.wrap 0=0:=sT 0 oM;have gg:(0:Int)<((a+1:Nat):Int):=by omega
 refine .g ?_;refine .dn ?_;refine Sc.drop (R':= [(0,.pointer (some ⟨X.Wg,0,none⟩)),(1,.int .i64 1),(4,.bool false),(6,.int .u64 (((a+1)*4294967296:Nat):Int))]) ⟨rfl,rfl,rfl,rfl,trivial⟩ ?_;refine .sq (.sq (.rg rfl rfl ?_));refine .m ?_;refine .i ?_ (z:=by assumption);refine .i ?_ (z:=ZG oM);refine .m ?_;refine .sk ?_;refine .sk ?_;refine .x .pk ?_;refine .dn (.ff rfl (.sp (.sq ?_)));refine Sc.drop (R':= [(0,.pointer (some ⟨X.Wg,0,none⟩)),(1,.int .i64 1),(4,.bool false),(6,.int .u64 (((a+1)*4294967296:Nat):Int))]) ⟨rfl,rfl,rfl,rfl,trivial⟩ ?_;refine .rg rfl rfl ?_;refine .m ?_;refine .x (ED.shift rfl rfl rfl oM (by assumption)) ?_;refine .x (ED.conv rfl rfl sH BR (by assumption)) ?_;refine .g ?_;refine .dn ?_;refine Sc.drop (R':= [(0,.pointer (some ⟨X.Wg,0,none⟩)),(1,.int .i64 1),(4,.bool false),(6,.int .u64 (((a+1)*4294967296:Nat):Int)),(7,.int .i32 ((a+1:Nat):Int))]) ⟨rfl,rfl,rfl,rfl,rfl,trivial⟩ ?_;refine .sq (.rg rfl rfl ?_);refine .m ?_;refine .i ?_ (z:=by assumption);refine .x (ED.conv rfl rfl sH oT (by assumption)) ?_;refine .g ?_;refine .dn ?_;refine Sc.drop (R':= [(0,.pointer (some ⟨X.Wg,0,none⟩)),(1,.int .i64 1),(4,.bool false),(7,.int .i32 ((a+1:Nat):Int)),(8,.int .u32 0)]) ⟨rfl,rfl,rfl,rfl,rfl,trivial⟩ ?_;refine .sq (.sq ?_);by_cases hz:a=0
 ·rw[if_pos hz];have q1:rA .eql .i32 ((a+1:Nat):Int) 1=some (.bool true):=sN oM;refine .rg rfl rfl ?_;refine .m ?_;refine .m ?_;refine .i ?_ (z:=sK oM);refine .x .pk ?_;refine .m ?_;refine .m ?_;refine .m ?_;refine .x (ED.conv rfl rfl aAW BR (by assumption)) ?_;refine .i ?_ (z:=by assumption);refine .x .pk ?_;refine .dn (.tt rfl ?_);refine Sc.drop (R':= [(0,.pointer (some ⟨X.Wg,0,none⟩)),(1,.int .i64 1),(4,.bool false),(7,.int .i32 ((a+1:Nat):Int)),(8,.int .u32 0)]) ⟨rfl,rfl,rfl,rfl,rfl,trivial⟩ ?_;refine .rg rfl rfl ?_;refine .m ?_;refine .x .nk ?_;refine .x (.fa (zz:=rL)) ?_;refine .x (ED.raw rfl rfl R7 eQ F7 (by assumption)) ?_;refine So.bD rfl rfl rfl nofun rfl (.mk' rfl) rfl (Jm.kr aFN) ?_;rintro v J' ⟨rfl,k5,hk5,rfl⟩;refine .dn ?_;refine Sc.drop (R':= [(0,.pointer (some ⟨X.Wg,0,none⟩)),(1,.int .i64 1),(4,.bool false),(7,.int .i32 ((a+1:Nat):Int)),(8,.int .u32 0)]) ⟨rfl,rfl,rfl,rfl,rfl,trivial⟩ ?_;refine .sq (.sq (.rg rfl rfl ?_));refine .m ?_;refine .i ?_ (z:=lJ oM);refine .dn (.ff rfl (.sp (.sq (.sq (.rg rfl rfl ?_)))));refine .m ?_;refine .i ?_ (z:=ZG oM);refine .m ?_;refine .sk ?_;refine .sk ?_;refine .x .pk ?_;refine .m ?_;refine .sk ?_;refine .sk ?_;refine .sk ?_;refine .sk ?_;refine .x .pk ?_;refine .dn (.ff rfl (.sp (.sq (.sq ?_))));refine Sc.drop (R':= [(0,.pointer (some ⟨X.Wg,0,none⟩)),(1,.int .i64 1),(4,.bool false),(7,.int .i32 ((a+1:Nat):Int)),(8,.int .u32 0)]) ⟨rfl,rfl,rfl,rfl,rfl,trivial⟩ ?_;refine .rg rfl rfl ?_;refine .m ?_;refine .i ?_ (z:=sK oM);refine .m ?_;refine .sk ?_;refine .sk ?_;refine .x .pk ?_;refine .dn (.tt rfl ?_);refine Sc.iE Jm.cl rfl (Jm.ke xZ rfl (fun k' _=> Sb.leave Jm.cl func124 rfl (.inl ⟨results124,rfl⟩) (hK _ _ ⟨rfl,k',rfl⟩)))
 ·rw[if_neg hz];have q1:rA .eql .i32 ((a+1:Nat):Int) 1=some (.bool false):=WQ oM;refine .rg rfl rfl ?_;refine .m ?_;refine .m ?_;refine .i ?_ (z:=sK oM);refine .x .pk ?_;refine .m ?_;refine .m ?_;refine .m ?_;refine .x (ED.conv rfl rfl aAW BR (by assumption)) ?_;refine .i ?_ (z:=by assumption);refine .x .pk ?_;refine .dn (.ff rfl (.sp (.sq (.sq ?_))));refine Sc.drop (R':= [(0,.pointer (some ⟨X.Wg,0,none⟩)),(1,.int .i64 1),(4,.bool false),(7,.int .i32 ((a+1:Nat):Int)),(8,.int .u32 0)]) ⟨rfl,rfl,rfl,rfl,rfl,trivial⟩ ?_;refine .rg rfl rfl ?_;refine .m ?_;refine .i ?_ (z:=lJ oM);refine .dn (.ff rfl (.sp (.sq (.sq (.rg rfl rfl ?_)))));refine .m ?_;refine .i ?_ (z:=ZG oM);refine .m ?_;refine .sk ?_;refine .sk ?_;refine .x .pk ?_;refine .m ?_;refine .sk ?_;refine .sk ?_;refine .sk ?_;refine .sk ?_;refine .x .pk ?_;refine .dn (.ff rfl (.sp (.sq (.sq ?_))));refine Sc.drop (R':= [(0,.pointer (some ⟨X.Wg,0,none⟩)),(1,.int .i64 1),(4,.bool false),(7,.int .i32 ((a+1:Nat):Int)),(8,.int .u32 0)]) ⟨rfl,rfl,rfl,rfl,rfl,trivial⟩ ?_;refine .rg rfl rfl ?_;refine .m ?_;refine .i ?_ (z:=sK oM);refine .m ?_;refine .sk ?_;refine .sk ?_;refine .x .pk ?_;refine .dn (.tt rfl ?_);refine Sc.iE Jm.cl rfl (Jm.ke xZ rfl (fun k' _=> Sb.leave Jm.cl func124 rfl (.inl ⟨results124,rfl⟩) (hK _ _ ⟨rfl,k',rfl⟩)))
end
section
variable {X:Fk}{H:View}{Fin:Goroutine->Prop}{j:Nat}{cc:Frame}{cs:List Frame}
noncomputable def aDX:Code:=cB (cB (cR (uM Tryz.f128)))
abbrev aFJ:FB:=⟨128,.normal,none⟩
attribute [local irreducible] IntKind.wrap OI Int.fdiv in
theorem I1(hc:Cl prog true A0 Fin)(hK:Fin (G (cc.finish (.tuple #[])) cs))(k:Nat):∀R:Rg,OB [(0,.pointer (some ⟨X.Wg,0,none⟩))] R->Sc (Jm prog X Fin k .w1 j H) 84 aFJ (cc::cs) R [] [.code aDX,.inLoop aDX,.inBlock 0]:=by
 induction k using Nat.strongRecOn with
 | ind k IH=>
  intro R hR;refine Sc.drop hR ?_;have gM:=OP X;have aHb:=YY X;refine Sc.block (by first|exact Jm.cl|exact hc) ?_;refine Sc.seq (by first|exact Jm.cl|exact hc) ?_;refine .rg rfl rfl ?_;refine .m ?_;refine .x .nk ?_;refine .x (.fa (zz:=vG)) ?_;refine So.bD rfl rfl rfl nofun rfl (.mk' rfl) rfl (wX Jm.cl km (Jm.w1 aBN)) ?_;rintro v J' ⟨k1,t,E8,⟨a,ha,rfl,rfl⟩,rfl⟩;have e0:((a*4294967296:Nat):Int)=((a*4294967296+0:Nat):Int):=(congrArg (fun x:Nat=> (x:Int)) (Nat.add_zero _)).symm;have g1:rA .and .u64 ((a*4294967296:Nat):Int) 2147483648=some (.int .u64 0):=by rw[e0,<-rS a oM 0 oM];rfl
  have g2:rA .and .u64 ((a*4294967296:Nat):Int) 2147483647=some (.int .u64 0):=by
   have:=sS a oM 0 oM;rw[e0];exact congrArg (fun x=> some (Value.int .u64 x)) this
  have g3:qC .shr .u64 ((a*4294967296:Nat):Int) 32=some (.int .u64 (a:Int)):=by rw[e0,<-tS a oM 0 oM];rfl
  have g4:=gZ a oM;have g5:IntKind.u32.wrap 0=0:=sT 0 oM;have g6:rA .add .u64 ((a*4294967296:Nat):Int) 1=some (.int .u64 ((a*4294967296+1:Nat):Int)):=by
   have h:∀a:Nat,a<8->IntKind.u64.wrap (((a*4294967296:Nat):Int)+1)=((a*4294967296+1:Nat):Int):=by decide +kernel
   exact congrArg (fun x=> some (Value.int .u64 x)) (h a oM)
  refine .g ?_;refine .dn ?_;refine Sc.drop (R':= [(0,.pointer (some ⟨X.Wg,0,none⟩)),(2,.int .u64 ((a*4294967296:Nat):Int))]) ⟨rfl,rfl,trivial⟩ ?_;refine Sc.seq (by first|exact Jm.cl|exact hc) ?_;refine .rg rfl rfl ?_;refine .m ?_;refine .x (ED.shift rfl rfl rfl oM (by assumption)) ?_;refine .x (ED.conv rfl rfl sH BR (by assumption)) ?_;refine .g ?_;refine .dn ?_;refine Sc.drop (R':= [(0,.pointer (some ⟨X.Wg,0,none⟩)),(2,.int .u64 ((a*4294967296:Nat):Int)),(3,.int .i32 (a:Int))]) ⟨rfl,rfl,rfl,trivial⟩ ?_;refine Sc.seq (by first|exact Jm.cl|exact hc) ?_;refine .rg rfl rfl ?_;refine .m ?_;refine .i ?_ (z:=by assumption);refine .x (ED.conv rfl rfl sH oT (by assumption)) ?_;refine .g ?_;refine .dn ?_;refine Sc.drop (R':= [(0,.pointer (some ⟨X.Wg,0,none⟩)),(2,.int .u64 ((a*4294967296:Nat):Int)),(3,.int .i32 (a:Int)),(4,.int .u32 0)]) ⟨rfl,rfl,rfl,rfl,trivial⟩ ?_;refine Sc.seq (by first|exact Jm.cl|exact hc) ?_;refine Sc.seq (by first|exact Jm.cl|exact hc) ?_;by_cases hz:a=0
  ·rw[if_pos hz];have q1:rA .eql .i32 (a:Int) 0=some (.bool true):=sN oM;refine .rg rfl rfl ?_;refine .m ?_;refine .i ?_ (z:=by assumption);refine .dn ?_;refine Sc.cond (by first|exact Jm.cl|exact hc) (t:=true) rfl (fun _=> ?_) (fun h=> nomatch h);refine Sc.seq (by first|exact Jm.cl|exact hc) ?_;refine Sc.cond (by first|exact Jm.cl|exact hc) (t:=true) rfl (fun _=> ?_) (fun h=> nomatch h);refine Sc.seq (by first|exact Jm.cl|exact hc) ?_;refine .rg rfl rfl ?_;refine So.bD rfl rfl rfl nofun rfl (.mk' rfl) rfl (Jm.we xZ) ?_;rintro v J' ⟨k2,t,EU,⟨rfl,rfl⟩,rfl⟩;refine .dn (.rg rfl rfl ?_);refine .m ?_;refine .x (ED.raw rfl rfl YX eQ SX (by assumption)) ?_;refine So.bD rfl rfl rfl nofun rfl (.mk' rfl) rfl (Jm.aq aEm) ?_;rintro v J' ⟨rfl,rfl⟩;refine .dn (.sq (.sq (.rg rfl rfl ?_)));refine .m ?_;refine .i ?_ (z:=sN oM);refine .m ?_;refine .m ?_;refine .i ?_ (z:=by assumption);refine .i ?_ (z:=ZG oM);refine .x .pk ?_;refine .m ?_;refine .sk ?_;refine .sk ?_;refine .x .pk ?_;refine .dn (.ff rfl (.sp ?_));refine Sc.iE (by exact hc) rfl (Sb.leave (by exact hc) func128 rfl (by exact .inl ⟨results128,rfl⟩) ?_);exact hK
  ·rw[if_neg hz];have q1:rA .eql .i32 (a:Int) 0=some (.bool false):=WQ oM;refine .rg rfl rfl ?_;refine .m ?_;refine .i ?_ (z:=by assumption);refine .dn ?_;refine Sc.cond (by first|exact Jm.cl|exact hc) (t:=false) rfl (fun h=> nomatch h) (fun _=> ?_);refine Sc.skip (by first|exact Jm.cl|exact hc) ?_;refine Sc.seq (by first|exact Jm.cl|exact hc) ?_;refine .rg rfl rfl ?_;refine .m ?_;refine .x .nk ?_;refine .x (.fa (zz:=vG)) ?_;refine .m ?_;refine .m ?_;refine .i ?_ (z:=by assumption);refine So.bD rfl rfl rfl nofun rfl (.mk' rfl) rfl (aEi Jm.cl km (Jm.w2 aFS)) ?_;rintro v J' ⟨k2,t,EU,⟨rfl,rfl⟩|⟨rfl,rfl⟩,rfl⟩
   ·refine .dn ?_;refine Sc.cond (by first|exact Jm.cl|exact hc) (t:=true) rfl (fun _=> ?_) (fun h=> nomatch h);refine Sc.seq (by first|exact Jm.cl|exact hc) ?_;refine Sc.seq (by first|exact Jm.cl|exact hc) ?_;refine Sc.drop (R':= [(0,.pointer (some ⟨X.Wg,0,none⟩)),(2,.int .u64 ((a*4294967296:Nat):Int)),(4,.int .u32 0)]) ⟨rfl,rfl,rfl,trivial⟩ ?_;refine .rg rfl rfl ?_;refine .m ?_;refine .m ?_;refine .i ?_ (z:=sN oM);refine .x .pk ?_;refine .dn ?_;refine Sc.cond (by first|exact Jm.cl|exact hc) (t:=true) rfl (fun _=> ?_) (fun h=> nomatch h);refine .rg rfl rfl ?_;refine .m ?_;refine .x .nk ?_;refine .x (.fa (zz:=rL)) ?_;refine .x (ED.raw rfl rfl R7 eQ F7 (by assumption)) ?_;refine So.bD rfl rfl rfl nofun rfl (.mk' rfl) rfl (Jm.wm aFP) ?_;rintro v J' ⟨rfl,k3,hk3,rfl⟩;refine .dn ?_;refine Sc.drop (R':= [(0,.pointer (some ⟨X.Wg,0,none⟩)),(2,.int .u64 ((a*4294967296:Nat):Int)),(4,.int .u32 0)]) ⟨rfl,rfl,rfl,trivial⟩ ?_;refine Sc.seq (by first|exact Jm.cl|exact hc) ?_;refine .rg rfl rfl ?_;refine .g ?_;refine .dn ?_;refine Sc.seq (by first|exact Jm.cl|exact hc) ?_;refine Sc.seq (by first|exact Jm.cl|exact hc) ?_;refine .rg rfl rfl ?_;refine .m ?_;refine .i ?_ (z:=by assumption);refine .i ?_ (z:=ZG oM);refine .m ?_;refine .sk ?_;refine .x .pk ?_;refine .dn ?_;refine Sc.cond (by first|exact Jm.cl|exact hc) (t:=false) rfl (fun h=> nomatch h) (fun _=> ?_);refine Sc.skip (by first|exact Jm.cl|exact hc) ?_;refine Sc.seq (by first|exact Jm.cl|exact hc) ?_;refine .rg rfl rfl ?_;refine .m ?_;refine .x .nk ?_;refine .x (.fa (zz:=rL)) ?_;refine .m ?_;refine So.bD rfl rfl rfl nofun rfl (.mk' rfl) rfl (Jm.ws (vs:= [.pointer (some ⟨X.Wg,1,none⟩),.bool false]) aFQ rfl) ?_;rintro v J' ⟨k4,t,hk4,⟨rfl,rfl⟩,rfl⟩;refine .dn ?_;refine Sc.drop (R':= [(0,.pointer (some ⟨X.Wg,0,none⟩))]) ⟨rfl,trivial⟩ ?_;refine Sc.seq (by first|exact Jm.cl|exact hc) ?_;refine .rg rfl rfl ?_;refine .m ?_;refine .x .nk ?_;refine .x (.fa (zz:=vG)) ?_;refine So.bD rfl rfl rfl nofun rfl (.mk' rfl) rfl (wX Jm.cl km (Jm.w4 aBN)) ?_;rintro v J' ⟨k5,t,hk5,⟨rfl,rfl⟩,rfl⟩;refine .i ?_ (z:=ZG oM);refine .g ?_;refine .dn ?_;refine Sc.seq (by first|exact Jm.cl|exact hc) ?_;refine Sc.cond (by first|exact Jm.cl|exact hc) (t:=true) rfl (fun _=> ?_) (fun h=> nomatch h);refine Sc.seq (by first|exact Jm.cl|exact hc) ?_;refine .rg rfl rfl ?_;refine So.bD rfl rfl rfl nofun rfl (.mk' rfl) rfl (Jm.we xZ) ?_;rintro v J' ⟨k6,t,hk6,⟨rfl,rfl⟩,rfl⟩;refine .dn (.rg rfl rfl ?_);refine .m ?_;refine .x (ED.raw rfl rfl YX eQ SX (by assumption)) ?_;refine So.bD rfl rfl rfl nofun rfl (.mk' rfl) rfl (Jm.aq aEm) ?_;rintro v J' ⟨rfl,rfl⟩;refine .dn (.sq (.sq (.rg rfl rfl ?_)));refine .m ?_;refine .dn (.ff rfl (.sp ?_));refine Sc.iE (by exact hc) rfl (Sb.leave (by exact hc) func128 rfl (by exact .inl ⟨results128,rfl⟩) ?_);exact hK
   ·refine .dn ?_;refine Sc.cond (by first|exact Jm.cl|exact hc) (t:=false) rfl (fun h=> nomatch h) (fun _=> ?_);refine Sc.skip (by first|exact Jm.cl|exact hc) ?_;refine Sc.inBlock (by first|exact Jm.cl|exact hc) ?_;refine Sc.inLoop (by exact Jm.cl) ?_;exact IH k2 oM _ ⟨rfl,trivial⟩
theorem aDV {k:Nat}(hc:Cl prog true A0 Fin):FI (Jm prog X Fin k .wd j H) 128 [.pointer (some ⟨X.Wg,0,none⟩)] fun v J'=> v=.tuple #[]/\J'=Fin:=by
 refine tT.at (by exact Jm.cl) aD5 (tT.enter (vs:= [.pointer (some ⟨X.Wg,0,none⟩)]) func128 rfl ntmps128 (Nat.le_of_ble_eq_true rfl) fun c cs hK=> ?_);refine Sc.seq (by first|exact Jm.cl|exact hc) ?_;refine Sc.cond (by first|exact Jm.cl|exact hc) (t:=true) rfl (fun _=> ?_) (fun h=> nomatch h);refine .rg rfl rfl ?_;refine So.bD rfl rfl rfl nofun rfl (.mk' rfl) rfl (Jm.wd aBM) ?_;rintro v J' ⟨k2,t,EU,⟨rfl,rfl⟩,rfl⟩;refine .dn ?_;refine Sc.block (by first|exact Jm.cl|exact hc) ?_;refine Sc.loop (by exact Jm.cl) ?_;exact I1 hc (hK _ _ ⟨rfl,rfl⟩) k2 _ ⟨rfl,trivial⟩
end
end Go.Proofs.YtldmfjcgjdchcaaGreatDoor
namespace Go.RL
open Go.Conc
section
variable {P:Program}{M:Md P}{md:Region.Mode}{ops:Array Oper}{S:Array Bool->View->Prop}{Fin:Array Value->View->Prop}{z:Nat}
theorem J1 {i j:Nat}{listed:Array Bool}(h:waits md ops i j=true)(hi:i∈Region.ready md ops listed)(hj:j∈Region.ready md ops listed):False:=by
 unfold waits at h;obtain⟨_,o,ho,TA⟩:=mem_ready.1 hj;rw[ho] at h;simp only at h;rw[Array.any_eq_true'] at h;obtain⟨e,he,hb⟩:=h;simp only[Bool.and_eq_true,beq_iff_eq] at hb;have h1:=TA e he hb.1;have h0:=(mem_ready.1 hi).1;rw[hb.2] at h1;rcases Nat.lt_or_ge i listed.size with h'|h'
 ·simp[h'] at h0 h1;rw[h0] at h1;cases h1
 ·simp[Array.getElem?_eq_none h'] at h1
def iM(M:Md P)(md:Region.Mode)(ops:Array Oper)(S:Array Bool->View->Prop)(z:Nat)(Fin:Array Value->View->Prop):Nat->Array Bool->Array Value->View->Prop
 | 0,listed,tmps,H=> ∀H₂,H.le H₂->S listed H₂->Region.ready md ops listed= [z]/\Fin tmps H₂
 | fuel+1,listed,tmps,H=> ∀H₂,H.le H₂->S listed H₂-> 
  (Region.ready md ops listed≠ [])/\
  ∀i∈Region.ready md ops listed,∀o,ops[i]? =some o->eL M ops o tmps H₂ fun tmps' H'=> S (listed.setIfInBounds i true) H'/\iM M md ops S z Fin fuel (listed.setIfInBounds i true) tmps' H'
theorem iM.mono {fuel:Nat}{listed:Array Bool}{tmps:Array Value}{H H':View}(h:iM M md ops S z Fin fuel listed tmps H)(k:H.le H'):iM M md ops S z Fin fuel listed tmps H':=by
 cases fuel with
 | zero=> exact fun H₂ h2 hS=> h H₂ (View.le_trans k h2) hS
 | succ fuel=> exact fun H₂ h2 hS=> h H₂ (View.le_trans k h2) hS
theorem AY(fuel t:Nat)(listed:Array Bool):Region.linearise.go md ops (fuel+1) t listed []=match (Region.ready md ops listed)[t%(Region.ready md ops listed).length]? with
  | some i=> i::Region.linearise.go md ops fuel (t/(Region.ready md ops listed).length) (listed.setIfInBounds i true) []
  | none=> []:=by
 rw[Region.linearise.go];show(match (Region.ready md ops listed)[t%(Region.ready md ops listed).length]? with
  | some i=> Region.linearise.go md ops fuel (t/(Region.ready md ops listed).length) (listed.setIfInBounds i true) [i]
  | none=> List.reverse [])=_
 split
 ·rename_i i _
  rw[linearise_go_acc];rfl
 ·rfl
theorem iM.sound {St:View->Goroutine->Prop}{b:FB}{ds:List Deferred}{k:List Item}{cs:List Frame}:∀(fuel t:Nat) (listed:Array Bool) (tmps:Array Value) (H:View),S listed H-> 
  iM M md ops S z (fun tmps H=> T M St H (G (b.at tmps ds (.inRegion ops [z]::k)) cs)) fuel listed tmps H->T M St H (G (b.at tmps ds (.inRegion ops (Region.linearise.go md ops (fuel+1) t listed [])::k)) cs):=by
 intro fuel;induction fuel with
 | zero=>
  intro t listed tmps H hS h;obtain⟨h1,h2⟩:=h H (View.le_refl H) hS;rw[AY,h1];simp only[List.length_singleton,Nat.mod_one,List.getElem?_cons_zero,Region.linearise.go,List.reverse_nil];exact h2
 | succ fuel ih=>
  intro t listed tmps H hS h;have h:=h H (View.le_refl H) hS;rw[AY];split
  ·rename_i i hi
   have yD:=List.mem_of_getElem? hi;obtain⟨_,o,ho,_⟩:=mem_ready.1 yD;exact eL.sound ho ((h.2 i yD o ho).mono fun t' H' hk=> ih _ _ _ _ hk.1 hk.2)
  ·rename_i hi
   exfalso
   cases hr:Region.ready md ops listed with
   | nil=> exact h.1 hr
   | cons a l=>
    rw[hr] at hi;have:t%(a::l).length<(a::l).length:=Nat.mod_lt _ (by simp);rw[List.getElem?_eq_getElem this] at hi;cases hi
theorem iM.first {i:Nat}{oi:Oper}{v:Value}(hi:ops[i]? =some oi)(QF:∀(j:Nat) (o:Oper) cs b,ops[j]? =some o->o.op≠ .select cs b)(hdi:NA oi.op=false)(hz:waits md ops i z=true)(tK:∀listed H,S (listed.setIfInBounds i true) H<->S listed H):
  ∀ (fuel:Nat) (listed:Array Bool) (tmps:Array Value) (H:View),
   (∀j oj,ops[j]? =some oj->j≠i->listed.getD j true=false->(∀e∈oj.after,Region.binds md e=true->e.on≠i)->oi.apart ops oj=true)-> 
   fC md ops listed=true->i∈Region.ready md ops listed->RG M md ops S i oi v tmps-> 
   iM M md ops S z Fin fuel (listed.setIfInBounds i true) (kC tmps oi.dst v) H->iM M md ops S z Fin (fuel+1) listed tmps H:=by
 have own:∀(fuel:Nat) (listed:Array Bool) (tmps:Array Value) (H:View),fC md ops listed=true->i∈Region.ready md ops listed->RG M md ops S i oi v tmps->S listed H->iM M md ops S z Fin fuel (listed.setIfInBounds i true) (kC tmps oi.dst v) H-> 
   eL M ops oi tmps H fun t H'=> S (listed.setIfInBounds i true) H'/\iM M md ops S z Fin fuel (listed.setIfInBounds i true) t H':=by
  intro fuel listed tmps H yB dP hy hS h;refine⟨hdi,?_⟩;rcases hy with ⟨hw,hv⟩|⟨hw,rfl⟩
  ·rw[if_pos hw];refine(hv listed yB (mem_ready.1 dP).1 H hS).run ?_;rintro u H' ⟨rfl,hle,sQ⟩;exact⟨(tK listed H').2 sQ,h.mono hle⟩
  ·rw[if_neg (by simp[hw])];exact⟨(tK listed H).2 hS,h⟩
 intro fuel;induction fuel with
 | zero=>
  intro listed tmps H _ yB hr hy h H₂ h2 hS;refine⟨fun e=> (by rw[e] at hr;cases hr),fun j hj o ho=> ?_⟩;by_cases qO:j=i
  ·subst qO;rw[hi] at ho;cases ho
   exact own 0 listed tmps H₂ yB hr hy hS (h.mono h2)
  ·have:=ready_mono hj qO;rw[(h H₂ h2 ((tK listed H₂).2 hS)).1,List.mem_singleton] at this;subst this;exact(J1 hz hr hj).elim
 | succ fuel ih=>
  intro listed tmps H CU yB hr hy h H₂ h2 hS;refine⟨fun e=> (by rw[e] at hr;cases hr),fun j hj oj bW=> ?_⟩;by_cases qO:j=i
  ·subst qO;rw[hi] at bW;cases bW
   exact own (fuel+1) listed tmps H₂ yB hr hy hS (h.mono h2)
  ·have h1:=(h H₂ h2 ((tK listed H₂).2 hS)).2 j (ready_mono hj qO) oj bW;have aBT:=qK yB hj;obtain⟨l5,oj',zS,TA⟩:=mem_ready.1 hj;rw[bW] at zS;cases zS
   have aB0:∀e∈oj.after,Region.binds md e=true->e.on≠i:=fun e he hb heq=> by
    have h1:=TA e he hb;have h0:=(mem_ready.1 hr).1;rw[heq] at h1;rcases Nat.lt_or_ge i listed.size with h'|h'
    ·simp[h'] at h0 h1;rw[h0] at h1;cases h1
    ·simp[Array.getElem?_eq_none h'] at h1
   have vU:=CU j oj bW qO l5 aB0;have bX:∀k ok,ops[k]? =some ok->k≠i->(listed.setIfInBounds j true).getD k true=false-> 
     (∀e∈ok.after,Region.binds md e=true->e.on≠i)->oi.apart ops ok=true:=fun k ok hk hki TZ YC=> by
    refine CU k ok hk hki ?_ YC;by_cases hjk:j=k
    ·subst hjk;exact l5
    ·rw[getD_set_ne true hjk] at TZ;exact TZ
   refine(h1.back vU (fun cs b=> QF j oj cs b bW)).mono ?_;rintro t H' ⟨⟨u,rfl⟩,sQ,h3⟩;rw[Array.setIfInBounds_comm _ _ (Ne.symm qO)] at sQ;refine⟨(tK _ H').1 sQ,ih (listed.setIfInBounds j true) _ H' bX aBT (ready_mono hr (Ne.symm qO)) (hy.put (fun cs b=> QF i oi cs b hi) (Oper.apart_spec vU).2.2) ?_⟩;rw[Array.setIfInBounds_comm _ _ qO];exact h3
end
section
variable {P:Program}{M:Md P}{St:View->Goroutine->Prop}{n:Nat}{b:FB}{H₀:View}{cs:List Frame}{R:Rg}{L L':Bl}{ds:List Deferred}{k:List Item}{S:Array Bool->View->Prop}{md:Region.Mode}{ops:Array Oper}{z:Nat}
def Tl(M:Md P)(St:View->Goroutine->Prop)(n:Nat)(b:FB)(H₀:View)(cs:List Frame)(S:Array Bool->View->Prop)(md:Region.Mode)(ops:Array Oper)(z:Nat)(fuel:Nat)(listed:Array Bool)(R:Rg)(L:Bl)(ds:List Deferred)(k:List Item):Prop:=
 ∀H tmps,kA H₀ L H->gB n R tmps->S listed H->iM M md ops S z (fun tmps H=> T M St H (G (b.at tmps ds (.inRegion ops [z]::k)) cs)) fuel listed tmps H
theorem Tl.done {listed:Array Bool}{o:Oper}(hr:Region.ready md ops listed= [z])(ho:ops[z]? =some o)(h:To M St n b H₀ cs (ops.toList.map (fun o:Oper=> o.dst)) R L ds [o] k):Tl M St n b H₀ cs S md ops z 0 listed R L ds k:=fun H tmps hs mF _ H₂ h2 _=>
 ⟨hr,h ops [z] (fun j=> by
  simp only[List.getElem?_map,Array.getElem?_toList];cases ops[j]? <;> rfl) (by simp[ho]) H₂ tmps (hs.mono h2) mF⟩
theorem Tl.take(i:Nat){o:Oper}{d:Nat}{v:Value}{fuel:Nat}{listed:Array Bool}(hi:ops[i]? =some o)(QF:Region.noSelect ops=true)(hr:(Region.ready md ops listed).contains i=true)(hf:Region.free md ops listed i=true)
  (hd:o.dst=some d) (hn:d<n) (jF:NA o.op=false) (hz:waits md ops i z=true) (yB:fC md ops listed=true) (tK:∀listed H,S (listed.setIfInBounds i true) H<->S listed H) (hw:XA (ops.toList.map (fun o:Oper=> o.dst)) R o=some true)
  (hv:∀listed,fC md ops listed=true->listed.getD i true=false->∀H tmps,S listed H->gB n R tmps->nE M o tmps H fun u H'=> u=v/\H.le H'/\S listed H')
  (h:Tl M St n b H₀ cs S md ops z fuel (listed.setIfInBounds i true) ((d,v)::R) L ds k):Tl M St n b H₀ cs S md ops z (fuel+1) listed R L ds k:=fun H tmps hs mF hS=> by
 refine iM.first hi (Region.noSelect_spec QF) jF hz tK fuel listed tmps H (fun j oj hj uB TZ YC=> Region.free_spec hi hf j oj hj uB TZ YC) yB (by simpa using hr) (.inl ⟨cC (fun j=> ?_) mF hw,fun l yB hu H hSH=> hv l yB hu H tmps hSH mF⟩) ?_
 ·simp only[List.getElem?_map,Array.getElem?_toList];cases ops[j]? <;> rfl
 ·rw[hd];exact h H _ hs (mF.put hn v) ((tK _ H).2 hS)
theorem Tl.tk(i:Nat){o:Oper}{d:Nat}{v:Value}{fuel:Nat}{listed:Array Bool}(hc:SD md ops [] listed i=true)(hz:waits md ops i z=true)(hi:ops[i]? =some o)(hd:o.dst=some d)(hn:d<n)(jF:NA o.op=false)(hw:XA (ops.toList.map (fun o:Oper=> o.dst)) R o=some true)
  (hv:∀H tmps,kA H₀ L H->gB n R tmps->nE M o tmps H fun u H'=> u=v/\H.le H')
  (h:Tl M St n b H₀ cs (fun _=> kA H₀ L) md ops z fuel (listed.setIfInBounds i true) ((d,v)::R) L ds k):Tl M St n b H₀ cs (fun _=> kA H₀ L) md ops z (fuel+1) listed R L ds k:=by
 simp only[SD,Bool.and_eq_true,Bool.not_eq_true'] at hc;obtain⟨⟨⟨⟨⟨QF,hr⟩,hf⟩,yB⟩,_⟩,_⟩:=hc;exact .take i hi QF hr hf hd hn jF hz yB (fun _ _=> Iff.rfl) hw (fun _ _ _ H tmps hS hr=> by
  have:=hv H tmps hS hr;unfold nE at this ⊢;have fin:∀u H',(u=v/\H.le H')->u=v/\H.le H'/\kA H₀ L H':=fun u H' ⟨h1,h2⟩=> ⟨h1,h2,hS.mono h2⟩
  refine kB _ (fun nx H' hn=> ?_) this;cases nx <;> first
   | exact hn.elim
   | exact fin _ _ hn
   | exact aA.mono hn fin
   | exact jN.mono hn fin) h
theorem Tc.dl(z:Nat){id:Nat}{fuel:Nat}(hm:P.follows .mixedOrders=true)(hf:ops.size=fuel+1)(h:Tl M St n b H₀ cs (fun _=> kA H₀ L) .any ops z fuel (Array.replicate (fuel+1) false) R L ds k):
  Tc M St n b H₀ cs R L ds (.code (.region id ops true)::k):=fun H tmps hs hr=> by
 refine .IF fun t=> ?_;simp only[Region.schedule,hm,Bool.true_or,if_true];have h1:=(h H tmps hs hr hs).sound _ t _ _ _ hs;unfold Region.linearise;rw[hf];exact h1
end
end Go.RL
