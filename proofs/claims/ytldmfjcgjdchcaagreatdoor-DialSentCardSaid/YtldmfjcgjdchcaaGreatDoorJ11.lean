/-
 Texts of the proofs over baudot/dial.
-/
import Derived.Test.YtldmfjcgjdchcaaGreatDoorJ10
namespace Go.Proofs.YtldmfjcgjdchcaaGreatDoor.Sg
open Go.RL Go.Proofs.Tryz
set_option maxRecDepth 10000
set_option maxHeartbeats 4000000
def Edg(H:View)(ps:List Nat)(eb:Nat):Prop:=
 ∃f es et ez,H eb=some (f,.cells ⟨es⟩ et ez)/\∀i:Nat,i<ps.length->BC true 2 es (0+i*2)=some (VF (ps[i]?.getD 0) i)
theorem Edg.le {H H':View}{ps:List Nat}{eb:Nat}(h:Edg H ps eb)(k:H.le H'):Edg H' ps eb:=by
 obtain⟨f,es,et,ez,h1,h2⟩:=h;exact⟨f,es,et,ez,k _ _ h1,h2⟩
theorem OE:∀c:Nat,c<32->0<(gA c 7).length/\(gA c 7).length<=6/\∀i:Nat,i<(gA c 7).length->(gA c 7)[i]?.getD 0<=6:=by decide +kernel
theorem Lk.F6 {k:Lk}(h:k.ok=true):(1<=k.s0/\k.s0<=k.s1/\k.s1<=40)/\(1<=k.r0/\k.r0<=k.r1/\k.r1<=40)/\(-9<=k.l0/\k.l0<=k.l1/\k.l1<=9)/\(-12<=k.m0/\k.m0<=k.m1/\k.m1<=12):=by
 simp[Lk.ok,NI,Lk.W3,Lk.sends,Lk.reads,Lk.PY,Lk.yP,QK,BG,mH] at h
 omega
structure Lk.FT(k:Lk):Prop where
 s:0<=k.s0/\k.s1<=1000
 r:0<=k.r0/\k.r1<=1000
 l: -1000<=k.l0/\k.l1<=1000
 m: -1000<=k.m0/\k.m1<=1000
 o:k.s0<=1000000/\k.r0<=1000000/\k.l0<=1000000/\k.m0<=1000/\ -1000000<=k.s1/\ -1000000<=k.r1/\ -1000000<=k.l1/\ -1000000<=k.m1
theorem Lk.aBS {k:Lk}(h:k.ok=true):k.FT:=by
 obtain⟨h1,h2,h3,h4⟩:=Lk.F6 h;exact⟨oM,oM,oM,oM,oM⟩
theorem Lk.FT.M8 {k:Lk}(h:k.FT){code:Nat}(hc:code<32){x:QB}(hx:x∈k.W0 code):x.Ok/\x.ps=gA code 7:=by
 obtain⟨s,r,n,f,h1,h2,h3,h4,rfl⟩:=Lk.JL.1 hx;obtain⟨g1,g2,g3,g4,g5⟩:=h;obtain⟨p1,p2,p3⟩:=OE code hc;exact⟨⟨hc,p1,p2,p3,⟨by show 0<=s;omega,by show s<=1000;omega⟩,⟨by show 0<=r;omega,by show r<=1000;omega⟩,⟨by show -1000<=n;omega,by show n<=1000;omega⟩,⟨by show -1000<=f;omega,by show f<=1000;omega⟩,⟨by show -1000<=k.m0;omega,by show k.m0<=1000;omega⟩,by show k.m1<=1000;omega⟩,rfl⟩
theorem Lk.FT.bounds {k:Lk}(h:k.FT):∀z,z∈ [k.s0,k.r0,k.l0,k.m0,k.s1,k.r1,k.l1,k.m1]-> -1000000<=z/\z<=1000000:=by
 obtain⟨g1,g2,g3,g4,g5⟩:=h;simp only[List.mem_cons,List.not_mem_nil,or_false,forall_eq_or_imp,forall_eq];omega
def Lk.iO(k:Lk)(code v:Nat):Bool:=(k.W0 code).any fun s=> s.reach v
def vF(K:Nat->Bool)(k v:Value):Prop:=v=.bool true/\∃u:Nat,u<128/\k=.int .u8 (u:Nat)/\K u=true
theorem CJ {K K':Nat->Bool}(h:∀u,u<128->K u=K' u)(k v:Value):vF K k v<->vF K' k v:=
 ⟨fun⟨h1,u,h2,h3,h4⟩=> ⟨h1,u,h2,h3,by rw[<-h u h2];exact h4⟩,fun⟨h1,u,h2,h3,h4⟩=> ⟨h1,u,h2,h3,by rw[h u h2];exact h4⟩⟩
theorem aDT {K:Nat->Bool}{w:Nat}(hw:w<128)(k v:Value):vF (fun u=> K u||u==w) k v<->(k=.int .u8 (w:Nat)/\v=.bool true)\/(k≠ .int .u8 (w:Nat)/\vF K k v):=by
 constructor
 ·rintro⟨h1,u,h2,h3,h4⟩;by_cases e:u=w
  ·subst e;exact .inl ⟨h3,h1⟩
  ·refine .inr ⟨?_,h1,u,h2,h3,?_⟩
   ·rw[h3];intro h;simp only[Value.int.injEq,true_and] at h;omega
   ·have:(u==w)=false:=by simpa using e
    have h5:(K u||u==w)=true:=h4;rw[this,Bool.or_false] at h5;exact h5
 ·rintro(⟨h1,h2⟩|⟨_,h1,u,h2,h3,h4⟩)
  ·exact⟨h2,w,hw,h1,by simp⟩
  ·exact⟨h1,u,h2,h3,by show(K u||u==w)=true;rw[h4];rfl⟩
theorem NV(u:Nat):mE en 1 153 (.int .u8 (u:Nat)):=⟨_,[_],rfl,rfl,_,rfl⟩
theorem VS(f:Nat->Bool):mE en 2 333 (.agg ⟨rowOf f⟩):=by
 refine⟨_,rowOf f,rfl,rfl,?_⟩;refine⟨_,rfl,jC f,fun i hi=> ?_⟩;refine⟨f i,?_⟩;unfold chunk;show((rowOf f).drop (i*1)).take 1=_;have ZN:i<(rowOf f).length:=by rw[jC];exact hi
 rw[Nat.mul_one,List.drop_eq_getElem_cons ZN];have:(rowOf f)[i]=.bool (f i):=Option.some.inj ((List.getElem?_eq_getElem ZN).symm.trans (tD f hi));rw[this];rfl
theorem aAY {es:Array MapEntry}{cl:Nat}{K:Nat->Bool}(h:vB es cl (vF K)):∀e∈es.toList,mE en 1 153 e.key:=fun e he=> by
 obtain⟨_,u,_,h3,_⟩:=(h.mem e.key e.val).2 ⟨e,he,rfl,rfl⟩;rw[h3];exact NV u
def kW(F:Value->Value->Prop)(K:Nat->Bool):Prop:=∀k v,F k v->v=.bool true/\∃f:Nat->Bool,k=.agg ⟨rowOf f⟩/\∀u,u<128->f u=true->K u=true
theorem kW.keys {es:Array MapEntry}{cl:Nat}{F:Value->Value->Prop}{K:Nat->Bool}(h:vB es cl F)(g:kW F K):∀e∈es.toList,mE en 2 333 e.key:=fun e he=> by
 obtain⟨_,f,h3,_⟩:=g _ _ ((h.mem e.key e.val).2 ⟨e,he,rfl,rfl⟩);rw[h3];exact VS f
theorem R0 {f g:Nat->Bool}(h:rowOf f=rowOf g){u:Nat}(hu:u<128):f u=g u:=by
 have h1:=tD f hu;rw[h,tD g hu] at h1;simpa using h1.symm
def aFD(k:Lk)(code:Nat)(H:View)(v:Value)(H':View):Prop:=H.le H'/\∃m es cl,v=.map (some m)/\H' m=some (true,.map es cl)/\H m=none/\vB es cl (vF (k.iO code))
section
variable(M:Md prog)(H:View)
theorem s9(k:Lk)(hk:k.FT)(code eb ec:Nat)(hc:code<32)(hE:Edg H (gA code 7) eb):
  aA M 157 #[k.val,.agg ⟨[.int .i64 code,.slice (some ⟨eb,0,none⟩) (gA code 7).length ec]⟩] H (aFD k code H):=by
 refine .en func157 ntmps157 fun St c cs hK=> ?_;refine U2 ?_;refine .bo fun b2=> ?_;refine .bo fun b3=> ?_;refine U4 ?_;refine .e (Or.makeMap rfl rfl dE (fun m1=> ?_));refine .al fun b5=> ?_;refine U4 ?_;refine .e (Or.makeMap rfl rfl dE (fun m2=> ?_));refine .al fun b6=> ?_;refine U7 ?_;refine To.sB rfl rfl rfl rfl rfl rfl dE (CB.h (NX M H k code (gA code 7).length eb ec)) (fun w H1 hw=> ?_);obtain⟨XC,c2,c5,c3,rfl,ZB⟩:=hw;refine U2 ?_;have s8:=hE.le XC;refine Tc.db (R':= [(15,aDH c2 c5 c3),(5,.pointer (some ⟨b5,0,none⟩)),(6,.pointer (some ⟨b6,0,none⟩)),(4,.map none)]) (L':= [(b6,true,.cells ⟨[.map (some m2)]⟩ 326 (0,0)),(m2,true,.map #[] 0),(b5,true,.cells ⟨[.map (some m1)]⟩ 261 (0,0)),(m1,true,.map #[] 0)]) ?_;have hI0:∀a b,vF (fun _=> false) a b<->False:=fun a b=> ⟨fun⟨_,_,_,_,h⟩=> (by cases h),fun h=> h.elim⟩
 refine Tc.aI (A:= []) (xs:=k.W0 code) (ts:= [16]) (fun rest H₁ L₁=> ∃es1 cl1 K1 es2 cl2 F2,L₁= [(b6,true,.cells ⟨[.map (some m2)]⟩ 326 (0,0)),(m2,true,.map es2 cl2),(b5,true,.cells ⟨[.map (some m1)]⟩ 261 (0,0)),(m1,true,.map es1 cl1)]/\H1.le H₁/\
   vB es1 cl1 (vF K1)/\vB es2 cl2 F2/\kW F2 K1/\∀u,u<128->(K1 u||rest.any fun s=> s.reach u)=k.iO code u) (fun _ _ _=> False) rfl rfl rfl rfl (fun H h=> CV M H k code eb ec c2 c5 c3 hk.bounds h) (nG.le) (fun rest H₁ L₁ ⟨_,_,_,_,_,_,_,h,_⟩=> ZB.le _ _ h) rfl (fun _ _=> rfl)
   ⟨#[],0,fun _=> false,#[],0,fun _ _=> False,rfl,View.le_refl _,vB.nil.congr hI0,vB.nil,fun _ _ h=> h.elim,fun u _=> by rw[Bool.false_or];rfl⟩ ?_ ?_ ?_
 ·rintro r s rest mb l tmps asg bdy H₁ _ hs ⟨es1,cl1,K1,es2,cl2,F2,rfl,cJ,hm1,hm2,J8,TA⟩ Q1 St1 cc1 cs1 eK q1 -;obtain⟨dC,dR⟩:=hk.M8 hc hs;have SW:aL H₁ s eb:=by
   have:=s8.le cJ;rw[<-dR] at this;exact this
  have hsv:s.val eb ec mb=.agg ⟨[.int .i64 s.code,.slice (some ⟨eb,0,none⟩) s.ps.length ec,.int .i64 s.send,.int .i64 s.read,.int .i64 s.lean,.int .i64 s.first,.int .i64 s.mf,.int .i64 s.mt,.map (some mb)]⟩:=rfl;refine U ?_;refine .al fun b7=> ?_;refine U2 ?_;refine Tc.beginRound (i:=2) rfl rfl rfl ?_;refine U4 ?_;refine To.VY 1 rfl (fun wT=> ?_);have hEm:aL (H₁.put mb (true,.map #[] 0)) s eb:=by
   obtain⟨f,es,et,ez,h1,h2⟩:=SW;exact⟨f,es,et,ez,View.rP _ wT _ _ h1,h2⟩
  refine To.sB rfl rfl rfl rfl rfl rfl dE (CB.h (aAG M (H₁.put mb (true,.map #[] 0)) s dC eb ec mb hEm (View.bB ..))) (fun w H2 hw=> ?_);obtain⟨aEI,rfl⟩:=hw;have kK:H₁.le H2:=fun b x hb=> by
   have uB:b≠mb:=by rintro rfl;rw[wT] at hb;cases hb
   exact aEI b x uB (by rw[View.GA _ _ uB];exact hb)
  refine To.lower kK ?_;have ln1:=TK s.reach;have on1:=YM s.reach;have st1:yE (List.replicate 128 (Value.bool false)) 0 (rowOf s.reach)=rowOf s.reach:=KP _ (by simp);have ld1:=JP s.reach;refine .al fun b8=> ?_;refine .e (Or.storeT (E:=en) 0 rfl rfl rfl rfl rfl ln1 rfl (by decide +kernel) on1 rfl st1 ?_);refine U5 ?_;refine .x (xA.load (E:=en) 0 rfl rfl rfl rfl ld1) ?_;refine .e (Or.lookup (E:=en) 2 rfl rfl rfl (fun H hs=> ⟨true,hs.get (i:=5) rfl⟩) rfl rfl rfl dE (VS s.reach) (J8.keys hm2) rfl dE (fun rr hr=> ?_));have HF:=hm2.find hr;cases rr with
  | some p=>
   obtain⟨pi,pv⟩:=p;simp only at HF;obtain⟨rfl,f,hf1,hf2⟩:=J8 _ _ HF;have jK:∀u,u<128->s.reach u=true->K1 u=true:=fun u hu h=> hf2 u hu (by
    simp only[Value.agg.injEq,Array.mk.injEq] at hf1;rw[<-R0 hf1 hu];exact h)
   refine U3 ?_;refine Tc.FA eK (i:=2) rfl (.inl ⟨rfl,rfl⟩) (fun H' hs=> q1 H' _ _ (hs.less sL) ⟨es1,cl1,K1,es2,cl2,F2,rfl,cJ,hm1,hm2,J8,fun u hu=> ?_⟩);rw[<-TA u hu,List.any_cons];cases h:s.reach u with
   | true=> rw[jK u hu h];rfl
   | false=> rfl
  | none=>
   simp only at HF;refine U6 ?_;refine .x (xA.load (E:=en) 0 rfl rfl rfl rfl ld1) ?_;refine .e (Or.mapUpdate (E:=en) 5 2 rfl rfl rfl rfl rfl rfl rfl dE (VS s.reach) (J8.keys hm2) rfl (fun rr hr=> ?_));obtain⟨es2',cl2',aB8,aGf⟩:=hm2.put (.bool true) hr;rw[aB8];refine U3 ?_;refine .x (xA.load (E:=en) 0 rfl rfl rfl rfl ld1) ?_;refine U3 ?_;refine Tc.db (Tc.sA (σ:= { x:Nat×Array MapEntry×Nat//x.1<=128/\vB x.2.1 x.2.2 (vF fun u=> K1 u||(decide (u<x.1)&&s.reach u)) })
    (fun x=> ([(25,.int .i64 (x.1.1:Nat)),(24,.agg ⟨rowOf s.reach⟩),(5,.pointer (some ⟨b5,0,none⟩)),(6,.pointer (some ⟨b6,0,none⟩)),(8,.pointer (some ⟨b8,0,none⟩))],
     [(l,true,.loop { Loop.fresh 157 tmps [16].toArray asg bdy r with state:=.busy }),(r,true,.deferred (some [])),(b6,true,.cells ⟨[.map (some m2)]⟩ 326 (0,0)),(m2,true,.map es2' cl2'),(b5,true,.cells ⟨[.map (some m1)]⟩ 261 (0,0)),(m1,true,.map x.1.2.1 x.1.2.2)])) (fun x=> 128-x.1.1) ?_ ⟨(0,es1,cl1),Nat.zero_le _,hm1.congr (CJ (fun u _=> by simp))⟩)
   rintro⟨⟨v,es1',cl1'⟩,v1,v2⟩ vh;simp only at v1 v2;show Tc M St1 _ _ H₁ _ [(25,.int .i64 (v:Nat)),(24,.agg ⟨rowOf s.reach⟩),(5,.pointer (some ⟨b5,0,none⟩)),(6,.pointer (some ⟨b6,0,none⟩)),(8,.pointer (some ⟨b8,0,none⟩))]
     [(l,true,.loop _),(r,true,.deferred (some [])),(b6,true,.cells ⟨[.map (some m2)]⟩ 326 (0,0)),(m2,true,.map es2' cl2'),(b5,true,.cells ⟨[.map (some m1)]⟩ 261 (0,0)),(m1,true,.map es1' cl1')] _ _
   by_cases cv:v=128
   ·subst cv;refine U8 ?_;refine Tc.FA eK (i:=0) rfl (.inl ⟨rfl,rfl⟩) (fun H' hs=> q1 H' _ _ (hs.less sL) ⟨es1',cl1',fun u=> K1 u||s.reach u,es2',cl2',_,rfl,cJ,v2.congr (CJ fun u hu=> by simp[hu]),aGf,?_,fun u hu=> ?_⟩)
    ·rintro k' v' (⟨rfl,rfl⟩|⟨_,hf⟩)
     ·exact⟨rfl,s.reach,rfl,fun u _ h=> by show(K1 u||s.reach u)=true;rw[h];simp⟩
     ·obtain⟨h1,f,h2,h3⟩:=J8 _ _ hf;exact⟨h1,f,h2,fun u hu h=> by show(K1 u||s.reach u)=true;rw[h3 u hu h];rfl⟩
    ·rw[<-TA u hu,List.any_cons,Bool.or_assoc]
   ·have cv2:v<128:=by omega
    have f2:BC false 1 (rowOf s.reach) ((v:Int).toNat*1)=some (.bool (s.reach v)):=by
     show(rowOf s.reach)[(v:Int).toNat*1]? =_;rw[show(v:Int).toNat*1=v by simp];exact tD _ cv2
    have f7:IntKind.u8.wrap (v:Int)=(v:Int):=by
     have:∀v:Nat,v<128->IntKind.u8.wrap (v:Int)=(v:Int):=by decide +kernel
     exact this v cv2
    cases hsr:s.reach v with
    | true=>
     rw[hsr] at f2;refine SE ?_;refine .x (xA.index (E:=en) rfl rfl rfl rfl rfl rfl oM oM f2) ?_;refine SE ?_;refine .e (Or.mapUpdate (E:=en) 5 1 rfl rfl rfl rfl rfl rfl rfl dE (NV v) (aAY v2) rfl (fun rr hr=> ?_));obtain⟨es1'',cl1'',aB8,aBX⟩:=v2.put (.bool true) hr;rw[aB8];refine U6 ?_;have vh':=vh ⟨(v+1,es1'',cl1''),by show v+1<=_;omega,aBX.congr fun a b=> ((CJ (fun u _=> ?_) a b).trans (aDT cv2 a b))⟩ (by show _-(v+1)<_-v;omega)
     ·exact Tc.db vh'
     ·by_cases e:u=v
      ·subst e;simp[hsr]
      ·have h1:decide (u<v+1)=decide (u<v):=by
        rw[decide_eq_decide];omega
       have h2:(u==v)=false:=by simpa using e
       show(K1 u||(decide (u<v+1)&&s.reach u))=((K1 u||(decide (u<v)&&s.reach u))||u==v)
       rw[h1,h2,Bool.or_false]
    | false =>
     rw[hsr] at f2;refine SE ?_;refine .x (xA.index (E:=en) rfl rfl rfl rfl rfl rfl oM oM f2) ?_;refine lF ?_;have vh':=vh ⟨(v+1,es1',cl1'),by show v+1<=_;omega,v2.congr (CJ fun u _=> ?_)⟩ (by show _-(v+1)<_-v;omega)
     ·exact Tc.db vh'
     ·by_cases e:u=v
      ·subst e;simp[hsr]
      ·have h1:decide (u<v+1)=decide (u<v):=by
        rw[decide_eq_decide];omega
       show(K1 u||(decide (u<v+1)&&s.reach u))=(K1 u||(decide (u<v)&&s.reach u))
       rw[h1]
 ·rintro r H₁ L₁ ⟨es1,cl1,K1,es2,cl2,F2,rfl,cJ,hm1,hm2,J8,TA⟩;refine U6 ?_;refine Tc.gO (E:=en) (i:=0) hK func157 results157 (vs:= [_]) rfl ⟨rfl,trivial⟩ ?_;refine fun H' hs=> ⟨View.le_trans XC (View.le_trans cJ hs.base),m1,es1,cl1,rfl,hs.get (i:=4) rfl,?_,hm1.congr (CJ fun u hu=> ?_)⟩
  ·have:=hs.fresh (i:=4) rfl;cases h:H m1 with
   | none=> rfl
   | some y=> rw[cJ _ _ (XC _ _ h)] at this;cases this
  ·rw[<-TA u hu];simp
 ·rintro _ _ _ _ h;exact h.elim
end
section
variable(M:Md prog)(H:View)
end
def VU(code:Nat)(x:Nat×Nat×List Value):Value:=.agg ⟨[.int .i64 code,.slice (some ⟨x.1,0,none⟩) (gA code 7).length x.2.1]⟩
def wQ(code:Nat)(x:Nat×Nat×List Value):Bl:= [(x.1,true,.cells ⟨JC (gA code 7)++x.2.2⟩ 270 (0,0))]
theorem VH(code:Nat)(x:Nat×Nat×List Value):((wQ code x).map (·.1)).Nodup:=by simp[wQ]
def kD(s:Nat)(ps:List Nat):List Value:=((ps.zipIdx s).map fun x=> [Value.int .i64 (x.1:Nat),Value.int .i64 (x.2:Nat)]).flatten
theorem XI:∀(ps:List Nat) (s i:Nat),i<ps.length->((kD s ps).drop (i*2)).take 2= [.int .i64 (ps[i]?.getD 0:Nat),.int .i64 (s+i:Nat)]
 | [],_,_,h=> by simp at h
 | p ::ps,s,i,h=> by
  have e:kD s (p::ps)= [.int .i64 (p:Nat),.int .i64 (s:Nat)]++kD (s+1) ps:=by simp[kD]
  rw[e];cases i with
  | zero=> simp
  | succ i=>
   rw[show(i+1)*2=i*2+2 by omega,List.drop_append];simp only[List.length_cons,List.length_nil];rw[show i*2+2-(0+1+1)=i*2 by omega,List.drop_eq_nil_of_le (by simp),List.nil_append,XI ps (s+1) i (by simpa using h)];simp
   omega
theorem qQ(ps:List Nat):(JC ps).length=ps.length*2:=by
 have:∀(ps:List Nat) (s:Nat),(kD s ps).length=ps.length*2:=by
  intro ps;induction ps with
  | nil=> intro s;rfl
  | cons p ps ih=>
   intro s;have e:kD s (p::ps)= [.int .i64 (p:Nat),.int .i64 (s:Nat)]++kD (s+1) ps:=by simp[kD]
   rw[e,List.length_append,ih];simp
   omega
 exact this ps 0
theorem KW {H:View}{code:Nat}{x:Nat×Nat×List Value}(h:∀y∈wQ code x,H y.1=some y.2):Edg H (gA code 7) x.1:=by
 refine⟨_,_,_,_,h (x.1,true,.cells ⟨JC (gA code 7)++x.2.2⟩ 270 (0,0)) (by simp[wQ]),fun i hi=> ?_⟩;have hl:=qQ (gA code 7);have hle:Nat.ble (0+i*2+2) (JC (gA code 7)++x.2.2).length=true:=Nat.ble_eq_true_of_le (by rw[List.length_append];omega);unfold BC;simp only[hle];have h1:=XI (gA code 7) 0 i hi
 congr 3
 rw[Nat.zero_add,List.drop_append_of_le_length oM,List.take_append_of_le_length (by rw[List.length_drop];omega)];have h2:kD 0 (gA code 7)=JC (gA code 7):=rfl;rw[<-h2,h1,Nat.zero_add]
section
variable(M:Md prog)(H:View)
theorem zY {e:TypeId}{sz:Nat}(g:Gl e sz)(h:0<g.n):∃b,g.blk=some b:=by
 cases hb:g.blk with
 | some b=> exact⟨b,rfl⟩
 | none=>
  have h1:=g.h0 hb;have h2:=g.hc;omega
end
section
variable(M:Md prog)(H:View)
end
section
variable(M:Md prog)(H:View)
theorem aCt(k:Lk)(code:Nat)(hG:HC H)(hk:k.ok=true)(hc:code<32):aA M 63 #[k.val,.int .i64 code] H (fun v H'=> H.le H'/\∃x:Nat×Nat×List Value,v=.tuple ⟨[k.val,VU code x,.int .i64 0]⟩/\True/\∀y∈wQ code x,H' y.1=some y.2/\H y.1=none):=
 aA.mono (FC M H k code hG hk hc) (by
  rintro v H' ⟨h2,g,rfl,⟨h3,h4⟩,h5⟩;obtain⟨b,hb⟩:=zY g (by rw[h3];exact(OE code hc).1);refine⟨h2,(b,g.cap,g.HB),?_,trivial,fun y hy=> h5 y ?_⟩
  ·unfold uO VU Gl.val;rw[hb,h3];rfl
  ·unfold Gl.bl;rw[hb,h4];exact hy)
end
section
variable(M:Md prog)(H:View)
theorem aDS:prog.underlying 9=some .string:=by kernel_rfl
theorem S8:aA M 266 #[.int .u64 0] H (fun v H'=> H.le H'/\v=.int .i64 0):=by
 refine .en func266 ntmps266 fun St c cs hK=> ?_;refine U33 ?_;refine .x (xA.FH (c:=0) rfl rfl rfl aDS dE (by decide +kernel)) ?_;refine U4 ?_;refine .rt hK func266 results266 [_] ?_;exact okB
theorem T8:aA M 266 #[.int .u64 1] H (fun v H'=> H.le H'/\v=.int .i64 1):=by
 refine .en func266 ntmps266 fun St c cs hK=> ?_;refine U33 ?_;refine .x (xA.FH (c:=1) rfl rfl rfl aDS dE (by decide +kernel)) ?_;refine U4 ?_;refine .rt hK func266 results266 [_] ?_;exact okB
theorem oX(sv:Option Addr)(n cap:Nat)(hn:n<=1):aA M 272 #[.slice sv n cap,.int .i64 0,.int .i64 n] H (fun v H'=> H.le H'/\v=.tuple ⟨[]⟩):=by
 refine .en func272 ntmps272 fun St c cs hK=> ?_;refine U5 ?_;refine .done (.block (.loop (.seq (.sr ?_))));refine U6 ?_;refine .ov hK func272 results272 [] ?_;exact okB
theorem UY(sv:Option Addr)(n cap:Nat)(li:Int)(hn:n<=1):aA M 222 #[.slice sv n cap,.int .i64 0,.int .i64 n,.int .i64 li] H (fun v H'=> H.le H'/\v=.tuple ⟨[]⟩):=by
 refine .en func222 ntmps222 fun St c cs hK=> ?_;refine U7 ?_;refine .done (.block (.loop (.block (.sr ?_))));refine BI ?_;refine .cl (fun H hs=> oX M H sv n cap hn) ?_;refine U ?_;refine .rt hK func222 results222 [] ?_;exact okB
theorem T2(sv:Option Addr)(n cap:Nat)(hn:n<=1):aA M 135 #[.slice sv n cap] H (fun v H'=> H.le H'/\v=.tuple ⟨[]⟩):=by
 rcases(by omega:n=0\/n=1) with rfl|rfl
 ·have hlen:∀H,aA M 197 #[.int .u64 0] H (fun v H'=> H.le H'/\v=.int .i64 0):=fun H=> by
   refine .en func197 ntmps197 fun St c cs hK=> ?_;refine UC ?_;refine .cl (fun H hs=> S8 M H) ?_;refine U2 ?_;refine .rt hK func197 results197 [_] ?_;exact okB
  refine .en func135 ntmps135 fun St c cs hK=> ?_;refine YD ?_;refine .cl (fun H hs=> hlen H) ?_;refine .cl (fun H hs=> UY M H sv 0 cap 0 oM) ?_;refine U ?_;refine .ov hK func135 results135 [] ?_;exact okB
 ·have hlen:∀H,aA M 197 #[.int .u64 1] H (fun v H'=> H.le H'/\v=.int .i64 1):=fun H=> by
   refine .en func197 ntmps197 fun St c cs hK=> ?_;refine UC ?_;refine .cl (fun H hs=> T8 M H) ?_;refine U2 ?_;refine .rt hK func197 results197 [_] ?_;exact okB
  refine .en func135 ntmps135 fun St c cs hK=> ?_;refine YD ?_;refine .cl (fun H hs=> hlen H) ?_;refine .cl (fun H hs=> UY M H sv 1 cap 1 oM) ?_;refine U ?_;refine .ov hK func135 results135 [] ?_;exact okB
end
theorem WJ:∀v:Nat,v<128->∀n:Nat,n<32->(YF v=some n<->v=64+2*n):=by decide +kernel
theorem HP {v n:Nat}(h:YF v=some n):n<32:=by
 unfold YF at h;split at h
 ·cases h
  omega
 ·cases h
theorem oN:∀ {l:List MapEntry},(l.map (·.born)).Nodup->∀a∈l,∀b∈l,a.born=b.born->a=b
 | [],_,a,ha,_,_,_=> by cases ha
 | x ::l,h,a,ha,b,hb,e=> by
  rw[List.map_cons,List.nodup_cons] at h;rcases List.mem_cons.1 ha with h1|h1
  ·rcases List.mem_cons.1 hb with h2|h2
   ·rw[h1,h2]
   ·subst h1;exact(h.1 (e▸List.mem_map_of_mem h2)).elim
  ·rcases List.mem_cons.1 hb with h2|h2
   ·subst h2;exact(h.1 (e▸List.mem_map_of_mem h1)).elim
   ·exact oN h.2 a h1 b h2 e
def DS(v:Value):Nat:=match v with
 | .int _ i=> i.toNat
 | _=> 0
def lL(e:MapEntry):Option Value:=(YF (DS e.key)).map fun n=> .int .i64 (n:Nat)
def sW(e:MapEntry):Bool:=(YF (DS e.key)).isNone
def Lk.MC(k:Lk)(c n:Nat):Bool:=k.iO c (64+2*n)
def Lk.bad(k:Lk)(c:Nat):Bool:=(List.range 128).any fun v=> k.iO c v&&(YF v).isNone
theorem HW {k:Lk}{c:Nat}{es:Array MapEntry}{cl:Nat}(h:vB es cl (vF (k.iO c))):(es.toList.filterMap lL).Perm (AG (k.MC c) 32):=by
 have o5:∀e∈es.toList,∃u:Nat,u<128/\e.key=.int .u8 (u:Nat)/\k.iO c u=true:=fun e he=> by
  obtain⟨_,u,h1,h2,h3⟩:=(h.mem e.key e.val).2 ⟨e,he,rfl,rfl⟩;exact⟨u,h1,h2,h3⟩
 have nd1:(es.toList.filterMap lL).Nodup:=by
  have hk:=h.keys;rw[List.nodup_iff_pairwise_ne,List.pairwise_map] at hk;rw[List.nodup_iff_pairwise_ne];rw[List.pairwise_filterMap];refine List.Pairwise.imp_of_mem ?_ hk;intro a b ha hb pI x hx y hy e;subst e;obtain⟨u,u1,u2,_⟩:=o5 a ha;obtain⟨w,w1,w2,_⟩:=o5 b hb;unfold lL DS at hx hy;rw[u2] at hx;rw[w2] at hy;simp only[Int.toNat_natCast] at hx hy;cases hu:YF u with
  | none=> rw[hu] at hx;cases hx
  | some n=>
   cases hw:YF w with
   | none=> rw[hw] at hy;cases hy
   | some m=>
    rw[hu] at hx;rw[hw] at hy;simp only[Option.map_some,Option.some.injEq] at hx hy;rw[<-hx] at hy;simp only[Value.int.injEq,true_and,Int.natCast_inj] at hy;subst hy;have hm:=HP hu;have e1:=(WJ u u1 m hm).1 hu;have e2:=(WJ w w1 m hm).1 hw;exact pI (by rw[u2,w2,e1,e2])
 have nd2:(AG (k.MC c) 32).Nodup:=by
  unfold AG;rw[List.nodup_iff_pairwise_ne,List.pairwise_map];refine List.Pairwise.imp ?_ (List.Pairwise.filter _ (List.nodup_iff_pairwise_ne.1 List.nodup_range));intro a b pI e;simp only[Value.int.injEq,true_and,Int.natCast_inj] at e;exact pI e
 refine(List.perm_ext_iff_of_nodup nd1 nd2).2 fun v=> ?_;unfold AG;simp only[List.mem_filterMap,List.mem_map,List.mem_filter,List.mem_range];constructor
 ·rintro⟨e,he,h1⟩;obtain⟨u,u1,u2,u3⟩:=o5 e he;unfold lL DS at h1;rw[u2] at h1;simp only[Int.toNat_natCast] at h1;cases hu:YF u with
  | none=> rw[hu] at h1;cases h1
  | some n=>
   rw[hu] at h1;simp only[Option.map_some,Option.some.injEq] at h1;have hn:=HP hu;have e1:=(WJ u u1 n hn).1 hu;exact⟨n,⟨hn,by unfold Lk.MC;rw[<-e1];exact u3⟩,h1⟩
 ·rintro⟨n,⟨h1,h2⟩,rfl⟩;obtain⟨e,he,h3,_⟩:=(h.mem (.int .u8 ((64+2*n:Nat):Int)) (.bool true)).1 ⟨rfl,64+2*n,oM,rfl,h2⟩;refine⟨e,he,?_⟩;unfold lL DS;rw[h3];simp only[Int.toNat_natCast];rw[(WJ (64+2*n) oM n h1).2 rfl];rfl
theorem w9 {k:Lk}{c:Nat}{es:Array MapEntry}{cl:Nat}(h:vB es cl (vF (k.iO c))):es.toList.any sW=k.bad c:=by
 unfold Lk.bad;rw[Bool.eq_iff_iff,List.any_eq_true,List.any_eq_true];constructor
 ·rintro⟨e,he,h1⟩;obtain⟨_,u,u1,u2,u3⟩:=(h.mem e.key e.val).2 ⟨e,he,rfl,rfl⟩;refine⟨u,List.mem_range.2 u1,?_⟩;unfold sW DS at h1;rw[u2] at h1;rw[u3];exact h1
 ·rintro⟨u,hu,h1⟩;rw[Bool.and_eq_true] at h1;obtain⟨e,he,h3,_⟩:=(h.mem (.int .u8 (u:Nat)) (.bool true)).1 ⟨rfl,u,List.mem_range.1 hu,rfl,h1.1⟩;refine⟨e,he,?_⟩;unfold sW DS;rw[h3];exact h1.2
def Lk.refused(k:Lk)(c:Nat):Int:=if k.bad c then(if(AG (k.MC c) 32).length=0 then 1 else 0) else 2
def aBu(l:List Value)(r:Int)(H:View)(v:Value)(H':View):Prop:=H.le H'/\∃g:Gl 3 1,v=.tuple ⟨[g.val,.int .i64 r,.int .i64 0]⟩/\g.l=l/\∀y∈g.bl,H' y.1=some y.2/\H y.1=none
section
variable(M:Md prog)(H:View)
end
theorem BX(M:Md prog)(H:View)(k:Lk)(code:Nat)(hG:HC H)(hk:k.ok=true)(hc:code<32):aA M 63 #[k.val,.int .i64 code] H (fun v H'=> H.le H'/\∃x:Nat×Nat×List Value,v=.tuple ⟨[k.val,VU code x,.int .i64 0]⟩/\(gA code 7).length<=x.2.1/\∀y∈wQ code x,H' y.1=some y.2/\H y.1=none):=
 aA.mono (FC M H k code hG hk hc) (by
  rintro v H' ⟨h2,g,rfl,⟨h3,h4⟩,h5⟩;obtain⟨b,hb⟩:=zY g (by rw[h3];exact(OE code hc).1);refine⟨h2,(b,g.cap,g.HB),?_,by rw[<-h3];exact g.hc,fun y hy=> h5 y ?_⟩
  ·unfold uO VU Gl.val;rw[hb,h3];rfl
  ·unfold Gl.bl;rw[hb,h4];exact hy)
theorem aA9:prog.eqGuardType prog.depth 139=false:=by kernel_rfl
theorem SJ(l:List Int)(h:l.length=6):flat en 2 139 (jA l):=by
 refine⟨_,rfl,by rw[uA,h];rfl,fun i hi=> ⟨l[i]?.getD 0,?_⟩⟩;have h3:i<l.length:=by rw[h];exact hi
 unfold chunk;show((jA l).drop (i*1)).take 1=_;rw[Nat.mul_one];unfold jA;have h4:i<(l.map fun x=> Value.int .i64 x).length:=by rw[List.length_map];exact h3
 rw[List.drop_eq_getElem_cons h4,List.getElem_map,List.getElem?_eq_getElem h3];rfl
def uL(ps:List Nat)(send lean n:Int)(af:List Int)(i:Nat):Int:=aF (ps[0]?.getD 0:Nat) 0 send lean+n+af[i+1]?.getD 0-aF (ps[i+1]?.getD 0:Nat) (i+1:Nat) send lean
def dD(ps:List Nat)(send lean n:Int)(af:List Int)(d:Nat):List Int:=n::(List.range d).map (uL ps send lean n af)
def Lk.jJ(k:Lk)(x:Int):Bool:=decide (k.m0<=x/\x<=k.m1)
def Lk.xG(k:Lk)(ps:List Nat)(send lean n:Int)(af:List Int):Bool:=
 ((List.range (ps.length-1)).all fun i=> k.jJ (uL ps send lean n af i))&&(YA (JE ps (dD ps send lean n af (ps.length-1)) send lean ps.length) ps.length==af)
def Lk.eD(k:Lk)(ps:List Nat)(send lean:Int)(af:List Int)(l:List Int):Bool:=l.any fun n=> k.xG ps send lean n af
def Lk.wG(k:Lk)(ps:List Nat)(send:Int)(af:List Int):Bool:=(KE k.l0 k.l1).any fun lean=> k.eD ps send lean af (KE k.m0 k.m1)
theorem RU {l:List Int}{i:Nat}(h:i<l.length):BC false 1 (jA l) (0+i*1)=some (.int .i64 (l[i]?.getD 0)):=by
 show(jA l)[0+i*1]? =_;rw[Nat.zero_add,Nat.mul_one];unfold jA;rw[List.getElem?_map,List.getElem?_eq_getElem h];rfl
theorem pU(ps:List Nat)(send lean n:Int)(af:List Int)(d:Nat):dD ps send lean n af (d+1)=dD ps send lean n af d++[uL ps send lean n af d]:=by
 unfold dD;rw[List.range_succ,List.map_append];rfl
theorem HK(ps:List Nat)(send lean n:Int)(af:List Int)(d:Nat):(dD ps send lean n af d).length=d+1:=by simp[dD]
theorem HZ {k:Lk}{ps:List Nat}{send lean n:Int}{af:List Int}{d:Nat}(hm: -1000<=k.m0/\k.m1<=1000)(hn:k.m0<=n/\n<=k.m1)(h:∀i,i<d->k.jJ (uL ps send lean n af i)=true)(i:Nat): -1000<=(dD ps send lean n af d)[i]?.getD 0/\(dD ps send lean n af d)[i]?.getD 0<=1000:=by
 by_cases e:i<(dD ps send lean n af d).length
 ·rw[List.getElem?_eq_getElem e];have yD:=List.getElem_mem e;simp only[Option.getD_some];generalize (dD ps send lean n af d)[i]=z at yD;unfold dD at yD;rcases List.mem_cons.1 yD with rfl|yD
  ·omega
  ·obtain⟨j,hj,rfl⟩:=List.mem_map.1 yD;have:=h j (List.mem_range.1 hj);unfold Lk.jJ at this;rw[decide_eq_true_iff] at this;omega
 ·rw[List.getElem?_eq_none oM];simp
theorem iR:∀ {l m:List Int},jA l=jA m->l=m
 | [],[],_=> rfl
 | [],_::_,h=> by cases h
 | _::_,[],h=> by cases h
 | a::l,b::m,h=> by
  have h1:Value.int .i64 a::jA l=Value.int .i64 b::jA m:=h
  injection h1 with h2 h3
  injection h2 with _ h4
  rw[h4,iR h3]
section
variable(M:Md prog)(H:View)
def gL(code eb ec:Nat)(k:Lk)(send:Int)(af:List Int)(found:Bool)(b4 b5 b6 b7 b8 b9:Nat):Bl:=
 [(b9,true,.cells ⟨[.int .i64 k.m0,.int .i64 k.m1]⟩ 257 (0,0)),(b8,true,.cells ⟨[.bool found]⟩ 4 (0,0)),(b7,true,.cells ⟨jA af⟩ 139 (0,0)),(b6,true,.cells ⟨[.int .i64 send]⟩ 3 (0,0)),(b5,true,.cells ⟨[.int .i64 code,.slice (some ⟨eb,0,none⟩) (gA code 7).length ec]⟩ 135 (0,0)),
   (b4,true,.cells ⟨k.val.cells.toList⟩ 132 (0,0))]
theorem yY(k:Lk)(hk:k.FT)(code eb ec:Nat)(send:Int)(af:List Int)(hc:code<32)(hE:Edg H (gA code 7) eb)(hec:(gA code 7).length<=ec)(h2:2<=(gA code 7).length)(h6:af.length=6)(hb:∀x∈af, -100000<=x/\x<=100000)(AF:0<=send/\send<=1000):
  aA M 155 #[k.val,.agg ⟨[.int .i64 code,.slice (some ⟨eb,0,none⟩) (gA code 7).length ec]⟩,.int .i64 send,UK af] H (fun v H'=> H.le H'/\v=.bool (k.wG (gA code 7) send af)):=by
 obtain⟨hp0,vQ,PZ⟩:=OE code hc;have iQ:=hk.bounds;simp only[List.mem_cons,List.not_mem_nil,or_false,forall_eq_or_imp,forall_eq] at iQ;obtain⟨k1,k2,k3,k4,k5,k6,k7,k8⟩:=iQ;have hkl:=hk.l;have hkm:=hk.m;refine .en func155 ntmps155 fun St c cs hK=> ?_;refine U2 ?_;refine .bo fun b4=> ?_;refine .bo fun b5=> ?_;refine .bo fun b6=> ?_;refine .bo fun b7=> ?_;refine .al fun b8=> ?_;refine U7 ?_;refine .cl (fun H hs=> rE M H k.m0 k.m1) ?_;refine .al fun b9=> ?_;refine U9 ?_;refine .cl (fun H hs=> rE M H k.l0 k.l1) ?_;refine U3 ?_;have itL:=fun H (_:(fun _:View=> True) H)=> gH M H k.l0 k.l1 oM oM;have itM:=fun H (_:(fun _:View=> True) H)=> gH M H k.m0 k.m1 oM oM;refine Tc.db (R':= [(27,.func (.func 154) #[YB k.l0 k.l1] #[]),(5,.pointer (some ⟨b5,0,none⟩)),(6,.pointer (some ⟨b6,0,none⟩)),(7,.pointer (some ⟨b7,0,none⟩)),(8,.pointer (some ⟨b8,0,none⟩)),(9,.pointer (some ⟨b9,0,none⟩))]) (L':=gL code eb ec k send af false b4 b5 b6 b7 b8 b9) ?_;refine Tc.aI (A:= []) (xs:=KE k.l0 k.l1) (ts:= [28]) (fun rest H₁ L₁=> L₁=gL code eb ec k send af false b4 b5 b6 b7 b8 b9/\H.le H₁/\(rest.any fun lean=> k.eD (gA code 7) send lean af (KE k.m0 k.m1))=k.wG (gA code 7) send af)
  (fun j H₁ L₁=> j=.ret/\H.le H₁/\k.wG (gA code 7) send af=true/\L₁=gL code eb ec k send af true b4 b5 b6 b7 b8 b9) rfl rfl rfl rfl itL (fun _ _ _ h=> h) (fun _ _ _ _=> trivial) rfl (fun _ _=> rfl) ⟨rfl,View.le_refl _,rfl⟩ ?_ ?_ ?_
 ·rintro r lean rest e l tmps asg bdy H₁ _ hl ⟨rfl,XC,aAc⟩ Q1 St1 cc1 cs1 eK q1 q1';have dX:=wE.1 hl;unfold gL;refine U ?_;refine .al fun b10=> ?_;refine U2 ?_;refine Tc.beginRound (i:=1) rfl rfl rfl ?_;refine U ?_;refine Tc.scope ?_;refine U ?_;refine Tc.label ?_;refine U6 ?_;refine Tc.tV (A:= []) (i:=1) (xs:=KE k.m0 k.m1) (ts:= [31]) (fun rest2 H₂ L₂=> L₂=(b10,true,.cells ⟨[.int .i64 lean]⟩ 3 (0,0))::(l,true,.loop { Loop.fresh 155 tmps [28].toArray asg bdy r with state:=.busy })::(r,true,.deferred (some []))::gL code eb ec k send af false b4 b5 b6 b7 b8 b9/\H.le H₂/\k.eD (gA code 7) send lean af rest2=k.eD (gA code 7) send lean af (KE k.m0 k.m1))
   (fun j H₂ L₂=> j=.ret/\H.le H₂/\k.wG (gA code 7) send af=true/\L₂=(b10,true,.cells ⟨[.int .i64 lean]⟩ 3 (0,0))::(l,true,.loop { Loop.fresh 155 tmps [28].toArray asg bdy r with state:=.busy })::(r,true,.deferred (some []))::gL code eb ec k send af true b4 b5 b6 b7 b8 b9)
   rfl rfl rfl rfl rfl itM (fun _ _ _ h=> h) (fun _ _ _ _=> trivial) rfl (fun _ _=> rfl) ⟨rfl,XC,rfl⟩ ?_ ?_ ?_
  ·rintro n rest2 e2 l2 tmps2 asg2 bdy2 H₂ _ hn ⟨rfl,cJ,tU⟩ Q2 St2 cc2 cs2 hK2 q2 q2';have ZK:=wE.1 hn;unfold gL;refine U3 ?_;refine Tc.beginRound (i:=0) rfl rfl rfl ?_;refine U3 ?_;refine .x (.ld 7) ?_;refine U2 ?_;refine .e (.bs (zz:=fun bs=> ?_));refine U ?_;refine .al fun b12=> ?_;refine U2 ?_;refine Tc.lift (L₂:= [_,_]) rfl (fun Hx hx=> ?_);have x10:=hx.get (i:=1) rfl;have x9:=hx.get (i:=4) rfl;have x8:=hx.get (i:=5) rfl;have x7:=hx.get (i:=6) rfl;have x6:=hx.get (i:=7) rfl;have x5:=hx.get (i:=8) rfl;obtain⟨fe,es,et,ez,s8,SW⟩:=hE.le (View.le_trans cJ hx.base);have f0:BC true 2 es (0+(0:Int).toNat*2)=some (VF ((gA code 7)[0]?.getD 0) 0):=SW 0 hp0;have b0:=PZ 0 hp0;have st0:=HG (place:=((gA code 7)[0]?.getD 0:Nat)) (number:=((0:Nat):Int)) (send:=send) (lean:=lean) oM oM AF.1 AF.2 oM oM;have st0':=HG (place:=((gA code 7)[0]?.getD 0:Nat)) (number:=0) (send:=send) (lean:=lean) oM oM AF.1 AF.2 oM oM;have f7:BC true 6 (jA af) 0=some (.agg ⟨jA af⟩):=by
    unfold BC;have e1:Nat.ble (0+6) (jA af).length=true:=by rw[uA,h6];rfl
    simp only[e1];rw[List.drop_zero,List.take_of_length_le (by rw[uA,h6];exact Nat.le_refl _)]
   refine U ?_;refine Tc.dr [] [] mixed rfl ?_;refine V6 0 ?_;refine .z 6 rfl (xA.tk fun H hs=> YJ M H ((gA code 7)[0]?.getD 0:Nat) ((0:Nat):Int) send lean oM oM oM AF.1 AF.2 oM oM) ?_;refine V3 7 ?_;refine .dn ?_;refine U5 ?_;refine .x (xA.slice (E:=en) (l:=1) (h:=((gA code 7).length:Nat)) (off':=0+1*2) rfl rfl rfl rfl rfl rfl rfl rfl oM oM oM (by rw[if_neg oM];rfl)) ?_;refine U4 ?_;refine Tc.gC (Tc.sA (σ:= { s:Nat×Gl 3 1//s.1<=(gA code 7).length-1/\s.2.l=jA (dD (gA code 7) send lean n af s.1)/\∀i,i<s.1->k.jJ (uL (gA code 7) send lean n af i)=true })
    (fun s=> ([(50,.int .i64 (s.1.1:Nat)),(49,.int .i64 (((gA code 7).length-1:Nat):Int)),(48,.slice (some ⟨eb,0+1*2,none⟩) ((gA code 7).length-1) (ec-1)),(13,.int .i64 (aF ((gA code 7)[0]?.getD 0:Nat) 0 send lean+n)),(12,.pointer (some ⟨b12,0,none⟩)),(10,.pointer (some ⟨b10,0,none⟩)),(5,.pointer (some ⟨b5,0,none⟩)),(6,.pointer (some ⟨b6,0,none⟩)),(7,.pointer (some ⟨b7,0,none⟩)),(8,.pointer (some ⟨b8,0,none⟩)),(9,.pointer (some ⟨b9,0,none⟩))],(b12,true,.cells ⟨[.int .i64 send,.int .i64 0,.int .i64 lean,s.1.2.val]⟩ 74 (0,0))::s.1.2.bl)) (fun s=> (gA code 7).length-1-s.1.1) ?_
    ⟨(0,⟨some bs,1,1,[.int .i64 n],[],rfl,Nat.le_refl _,rfl,nofun⟩),by simp,rfl,nofun⟩) ⟨rfl,rfl,rfl,rfl,rfl,rfl,rfl,rfl,rfl,rfl,rfl,trivial⟩ (List.Sublist.refl _)
   rintro⟨⟨j,g⟩,g1,g2,g3⟩ ih;simp only at g1 g2 g3;show Tc _ _ _ _ _ _ [(50,.int .i64 (j:Nat)),(49,.int .i64 (((gA code 7).length-1:Nat):Int)),(48,.slice (some ⟨eb,0+1*2,none⟩) ((gA code 7).length-1) (ec-1)),(13,.int .i64 (aF ((gA code 7)[0]?.getD 0:Nat) 0 send lean+n)),(12,.pointer (some ⟨b12,0,none⟩)),(10,.pointer (some ⟨b10,0,none⟩)),(5,.pointer (some ⟨b5,0,none⟩)),(6,.pointer (some ⟨b6,0,none⟩)),(7,.pointer (some ⟨b7,0,none⟩)),(8,.pointer (some ⟨b8,0,none⟩)),(9,.pointer (some ⟨b9,0,none⟩))] ((b12,true,.cells ⟨[.int .i64 send,.int .i64 0,.int .i64 lean,g.val]⟩ 74 (0,0))::g.bl) _ _;by_cases c1:j=(gA code 7).length-1
   ·have iK:g.n=(gA code 7).length:=by
     have h1:=g.hl;rw[g2,uA,HK] at h1;omega
    obtain⟨_|vb,gn,gc,gll,gj,e1,e2,e3,e4⟩:=g
    ·have:=e4 rfl;simp only at iK;omega
    simp only at iK g2;subst iK;subst g2;have hmv:=HZ (ps:=gA code 7) (send:=send) (lean:=lean) (n:=n) (af:=af) hkm ZK g3;rw[c1] at hmv g3;have hV2:∀i:Nat,i<(gA code 7).length->BC false 1 (jA (dD (gA code 7) send lean n af ((gA code 7).length-1))++gj) (0+i*1)=some (.int .i64 ((dD (gA code 7) send lean n af ((gA code 7).length-1))[i]?.getD 0)):=fun i hi=> by
     have ZN:i<(dD (gA code 7) send lean n af ((gA code 7).length-1)).length:=by rw[HK];omega
     have:=RU ZN;unfold BC at this ⊢;simp only at this ⊢;rw[List.getElem?_append_left (by rw[uA];omega)];exact this
    have hsl:=ID (JE (gA code 7) (dD (gA code 7) send lean n af ((gA code 7).length-1)) send lean (gA code 7).length) (gA code 7).length;rw[QD] at hsl;have hsb:∀z∈JE (gA code 7) (dD (gA code 7) send lean n af ((gA code 7).length-1)) send lean (gA code 7).length, -1000000000<=z/\z<=1000000000:=by
     intro z hz;unfold JE at hz;obtain⟨i,hi,rfl⟩:=List.mem_map.1 hz;split
     ·rename_i hi2
      unfold seenAt;have h1:=hmv i;have h2:=PZ i hi2;have h3:=HG (place:=((gA code 7)[i]?.getD 0:Nat)) (number:=(i:Nat)) (send:=send) (lean:=lean) oM oM AF.1 AF.2 oM oM;omega
     ·omega
    subst c1;have TA:((List.range ((gA code 7).length-1)).all fun i=> k.jJ (uL (gA code 7) send lean n af i))=true:=by
     rw[List.all_eq_true];intro i hi;exact g3 i (List.mem_range.1 hi)
    by_cases hq:YA (JE (gA code 7) (dD (gA code 7) send lean n af ((gA code 7).length-1)) send lean (gA code 7).length) (gA code 7).length=af
    ·have YN:k.xG (gA code 7) send lean n af=true:=by
      unfold Lk.xG;rw[TA,hq];simp
     have M5:k.wG (gA code 7) send af=true:=by
      rw[<-aAc,List.any_cons,<-tU];unfold Lk.eD;rw[List.any_cons,YN];rfl
     refine U8 ?_;refine Tc.dr [] [] mixed rfl ?_;refine V2 0 ?_;refine .z 2 rfl (xA.tk fun H hs=> m7 M H (code:Int) send 0 lean (gA code 7) (dD (gA code 7) send lean n af ((gA code 7).length-1)) eb 0 ec vb 0 gc fe true es _ et 3 ez (0,0) (hs.base _ _ s8) SW (hs.get (i:=1) rfl) hV2 vQ PZ hmv AF.1 AF.2 oM oM _ (Nat.le_refl _)) ?_;refine V3 3 ?_;refine .z 6 rfl (xA.tk fun H hs=> TR M H _ (gA code 7).length (QD ..) vQ hsb) ?_;refine .nn 7 ?_;refine .q 8 rfl (xA.eqA (E:=en) true 2 rfl rfl rfl rfl rfl aA9 dE (SJ _ hsl) (SJ af h6) ⟨fun _=> by rw[hq],fun _=> rfl⟩) ?_;refine .dn ?_;refine Tc.expand hx ?_;refine U3 ?_;refine .e (.st 7 (zz:=?_));refine U ?_;refine Tc.FA hK2 (i:=2) rfl (.inr (.inl ⟨_,rfl,rfl⟩)) (fun H' hs'=> q2' H' _ _ _ (hs'.less sL) ⟨rfl,cJ,M5,rfl⟩)
    ·have YN:k.xG (gA code 7) send lean n af=false:=by
      unfold Lk.xG;rw[TA];simp[hq]
     have uU:k.eD (gA code 7) send lean af rest2=k.eD (gA code 7) send lean af (KE k.m0 k.m1):=by
      rw[<-tU];unfold Lk.eD;rw[List.any_cons,YN];rfl
     refine U8 ?_;refine Tc.dr [] [] mixed rfl ?_;refine V2 0 ?_;refine .z 2 rfl (xA.tk fun H hs=> m7 M H (code:Int) send 0 lean (gA code 7) (dD (gA code 7) send lean n af ((gA code 7).length-1)) eb 0 ec vb 0 gc fe true es _ et 3 ez (0,0) (hs.base _ _ s8) SW (hs.get (i:=1) rfl) hV2 vQ PZ hmv AF.1 AF.2 oM oM _ (Nat.le_refl _)) ?_;refine V3 3 ?_;refine .z 6 rfl (xA.tk fun H hs=> TR M H _ (gA code 7).length (QD ..) vQ hsb) ?_;refine .nn 7 ?_;refine .q 8 rfl (xA.eqA (E:=en) false 2 rfl rfl rfl rfl rfl aA9 dE (SJ _ hsl) (SJ af h6) ⟨(fun h=> nomatch h),fun h=> (hq (iR h)).elim⟩) ?_;refine .dn ?_;refine Tc.expand hx ?_;refine U3 ?_;refine Tc.FA hK2 (i:=2) rfl (.inl ⟨rfl,rfl⟩) (fun H' hs'=> q2 H' _ _ (hs'.less sL) ⟨rfl,cJ,uU⟩)
   ·have c2:j<(gA code 7).length-1:=by omega
    have iK:g.n=j+1:=by
     have h1:=g.hl;rw[g2,uA,HK] at h1;omega
    have f1:BC true 2 es ((0+1*2)+(j:Int).toNat*2)=some (VF ((gA code 7)[j+1]?.getD 0) (j+1)):=by
     rw[show(0+1*2)+(j:Int).toNat*2=0+(j+1)*2 by simp;omega];exact SW (j+1) oM
    have f2:BC false 1 (jA af) (0+((j:Int)+1).toNat*1)=some (.int .i64 (af[j+1]?.getD 0)):=by
     rw[show((j:Int)+1).toNat=j+1 by omega];exact RU oM
    have JZ:=PZ (j+1) oM;have st1:=HG (place:=((gA code 7)[j+1]?.getD 0:Nat)) (number:=((j+1:Nat):Int)) (send:=send) (lean:=lean) oM oM AF.1 AF.2 oM oM;have hbf: -100000<=af[j+1]?.getD 0/\af[j+1]?.getD 0<=100000:=by
     have NB:j+1<af.length:=by omega
     rw[List.getElem?_eq_getElem NB];exact hb _ (List.getElem_mem NB)
    cases jK:k.jJ (uL (gA code 7) send lean n af j) with
    | true=>
     refine lF ?_;refine .al fun b15=> ?_;refine U4 ?_;refine Tc.dr [] [] mixed rfl ?_;refine V9 0 ?_;refine .z 9 rfl (xA.tk fun H hs=> YJ M H ((gA code 7)[j+1]?.getD 0:Nat) ((j+1:Nat):Int) send lean oM oM oM AF.1 AF.2 oM oM) ?_;refine V2 10 ?_;refine .dn ?_;refine U5 ?_;refine .cl (fun H hs=> aA.mono (aBb M H k.m0 k.m1 (uL (gA code 7) send lean n af j)) (Q':=fun v H'=> H.le H'/\v=.bool true) (by rintro v H' ⟨h1,h2⟩;unfold Lk.jJ at jK;rw[jK] at h2;exact⟨h1,h2⟩)) ?_;refine U8 ?_;refine .e (.bs (zz:=fun bs2=> ?_));refine .e (Or.append (E:=en) 3 rfl rfl rfl rfl rfl rfl rfl rfl rfl rfl rfl rfl rfl rfl rfl (fun H hs=> UA.of (hs.get (i:=0) rfl) (Nat.le_of_ble_eq_true rfl)) rfl oM rfl dE (fun g' aW xN=> ?_));refine U8 ?_;exact Tc.db (ih ⟨(j+1,g'),by simp only;omega,by simp only;rw[xN,g2,pU];unfold jA;rw[List.map_append];rfl,by simp only;intro i hi;rcases Nat.lt_succ_iff_lt_or_eq.1 hi with h|rfl;exact g3 i h;exact jK⟩ (by simp only;omega))
    | false=>
     have YN:k.xG (gA code 7) send lean n af=false:=by
      unfold Lk.xG;rw[Bool.and_eq_false_iff];refine .inl ?_;rw[List.all_eq_false];exact⟨j,List.mem_range.2 c2,by rw[jK];simp⟩
     have uU:k.eD (gA code 7) send lean af rest2=k.eD (gA code 7) send lean af (KE k.m0 k.m1):=by
      rw[<-tU];unfold Lk.eD;rw[List.any_cons,YN];rfl
     refine lF ?_;refine .al fun b15=> ?_;refine U4 ?_;refine Tc.dr [] [] mixed rfl ?_;refine V9 0 ?_;refine .z 9 rfl (xA.tk fun H hs=> YJ M H ((gA code 7)[j+1]?.getD 0:Nat) ((j+1:Nat):Int) send lean oM oM oM AF.1 AF.2 oM oM) ?_;refine V2 10 ?_;refine .dn ?_;refine U5 ?_;refine .cl (fun H hs=> aA.mono (aBb M H k.m0 k.m1 (uL (gA code 7) send lean n af j)) (Q':=fun v H'=> H.le H'/\v=.bool false) (by rintro v H' ⟨h1,h2⟩;unfold Lk.jJ at jK;rw[jK] at h2;exact⟨h1,h2⟩)) ?_;refine U2 ?_;refine Tc.gC (R':= [(69,.bool true)]) (L':= []) ?_ ⟨rfl,trivial⟩ (List.nil_sublist _);refine Tc.expand hx ?_;refine U2 ?_;refine Tc.FA hK2 (i:=0) rfl (.inl ⟨rfl,rfl⟩) (fun H' hs'=> q2 H' _ _ (hs'.less sL) ⟨rfl,cJ,uU⟩)
  ·rintro H₂ _ ⟨rfl,cJ,tU⟩;have YC:k.eD (gA code 7) send lean af (KE k.m0 k.m1)=false:=tU.symm;have uU:(rest.any fun lean=> k.eD (gA code 7) send lean af (KE k.m0 k.m1))=k.wG (gA code 7) send af:=by
    rw[<-aAc,List.any_cons,YC];rfl
   refine U ?_;refine Tc.inScope ?_;refine U ?_;refine Tc.FA eK (i:=1) rfl (.inl ⟨rfl,rfl⟩) (fun H' hs'=> q1 H' _ _ (hs'.less sL) ⟨rfl,cJ,uU⟩)
  ·rintro j H₂ _ ⟨rfl,cJ,M5,rfl⟩;refine Tc.FA eK (i:=1) rfl (.inr (.inl ⟨_,rfl,rfl⟩)) (fun H' hs'=> q1' H' _ _ _ (hs'.less sL) ⟨rfl,cJ,M5,rfl⟩)
 ·rintro r H₁ _ ⟨rfl,XC,aAc⟩;have YC:k.wG (gA code 7) send af=false:=aAc.symm;unfold gL;refine U5 ?_;refine Tc.gO (E:=en) (i:=0) hK func155 results155 (vs:= [_]) rfl (by refine⟨⟨2,_,_,_,_,_,_,_,rfl,rfl,rfl,rfl⟩,?_⟩;exact trivial) ?_;exact fun H' hs=> ⟨View.le_trans XC hs.base,by rw[YC];rfl⟩
 ·rintro r j H₁ _ ⟨rfl,XC,M5,rfl⟩;unfold gL;refine Tc.gO (E:=en) (i:=0) hK func155 results155 (vs:= [_]) rfl (by refine⟨⟨2,_,_,_,_,_,_,_,rfl,rfl,rfl,rfl⟩,?_⟩;exact trivial) ?_;exact fun H' hs=> ⟨View.le_trans XC hs.base,by rw[M5];rfl⟩
end
def MG(H:View)(A:Option Addr)(l:List Int):Prop:=
 l= []\/∃ab ao f gs gt gz,A=some ⟨ab,ao,none⟩/\H ab=some (f,.cells ⟨gs⟩ gt gz)/\∀j:Nat,j<l.length->BC false 1 gs (ao+(j:Int).toNat*1)=some (.int .i64 (l[j]?.getD 0))
theorem MG.le {H H':View}{A:Option Addr}{l:List Int}(h:MG H A l)(k:H.le H'):MG H' A l:=by
 rcases h with h|⟨ab,ao,f,gs,gt,gz,h1,h2,h3⟩
 ·exact .inl h
 ·exact .inr ⟨ab,ao,f,gs,gt,gz,h1,k _ _ h2,h3⟩
theorem MG.of {H:View}{g:Gl 3 1}{l:List Int}(hl:g.l=jA l)(h:∀y∈g.bl,H y.1=some y.2):g.n=l.length/\MG H (g.blk.map fun b=> ⟨b,0,none⟩) l:=by
 have hn:g.n=l.length:=by
  have:=g.hl;rw[hl,uA] at this;omega
 refine⟨hn,?_⟩;obtain⟨_|b,n,cap,gl,gj,h1,h2,h3,h4⟩:=g
 ·have:=h4 rfl;simp only at hn h2;refine .inl (List.eq_nil_of_length_eq_zero oM)
 ·refine .inr ⟨b,0,true,gl++gj,3,(0,0),rfl,h (b,true,.cells ⟨gl++gj⟩ 3 (0,0)) (by simp[Gl.bl]),fun j hj=> ?_⟩;simp only at hl;subst hl;show(jA l++gj)[0+(j:Int).toNat*1]? =_;rw[Nat.zero_add,Nat.mul_one,Int.toNat_natCast,List.getElem?_append_left (by rw[uA];exact hj)];unfold jA;rw[List.getElem?_map,List.getElem?_eq_getElem hj];rfl
def tB(p:Nat->Bool)(k:Nat):List Int:=((List.range k).filter p).map fun i:Nat=> (i:Int)
theorem EL(p:Nat->Bool)(k:Nat):AG p k=jA (tB p k):=by
 unfold AG tB jA;rw[List.map_map];rfl
section
variable(M:Md prog)(H:View)
theorem DK(x a b:Int):aA M 24 #[.int .i64 x,.int .i64 a,.int .i64 b] H (fun v H'=> H.le H'/\v=.bool (decide (a<=x/\x<=b))):=by
 refine .en func24 ntmps24 fun St c cs hK=> ?_;by_cases c1:a<=x
 all_goals by_cases c2:x<=b
 all_goals (
  refine U8 ?_;refine .i ?_ (z:=by first|exact oI oM|exact VG oM);refine U ?_;first|(refine .sk ?_)|(refine .m ?_)
  first|(refine .sk ?_)|(refine .m ?_)
  first|(refine .sk ?_)|(refine .x (.it (zz:=(by first|exact CD oM|exact BD oM))) ?_)
  refine U3 ?_;refine .rt hK func24 results24 [_] ?_;exact fun H' hs=> ⟨hs.base,by simp[c1,c2];rfl⟩)
theorem mC(a b low high:Int):aA M 168 #[YB a b,.int .i64 low,.int .i64 high] H (fun v H'=> H.le H'/\v=.bool (decide (a<=b/\low<=a/\b<=high))):=by
 refine .en func168 ntmps168 fun St c cs hK=> ?_;by_cases c1:a<=b
 all_goals by_cases c2:low<=a
 all_goals by_cases c3:b<=high
 all_goals (
  refine U2 ?_;refine .bo fun b3=> ?_;refine U8 ?_;refine .i ?_ (z:=by first|exact CD oM|exact BD oM);refine U ?_;first|(refine .sk ?_)|(refine .x .fa ?_)
  first|(refine .sk ?_)|((refine .x (.ld 0) ?_))
  first|(refine .sk ?_)|(refine .m ?_)
  first|(refine .sk ?_)|(refine .x (.it (zz:=(by first|exact oI oM|exact VG oM))) ?_)
  refine U2 ?_;first|(refine .sk ?_)|(refine .x .fa ?_)
  first|(refine .sk ?_)|((refine .x (.ld 0) ?_))
  first|(refine .sk ?_)|(refine .m ?_)
  first|(refine .sk ?_)|(refine .x (.it (zz:=(by first|exact CD oM|exact BD oM))) ?_)
  refine U3 ?_;refine .rt hK func168 results168 [_] ?_;exact fun H' hs=> ⟨hs.base,by simp[c1,c2,c3];rfl⟩)
theorem EG(a b:Int):aA M 149 #[YB a b] H (fun v H'=> H.le H'/\v=.bool (QK a b)):=by
 refine .en func149 ntmps149 fun St c cs hK=> ?_;by_cases c1:a<=b/\1<=a/\b<=40
 ·by_cases c2:b-a<3
  ·have e:QK a b=true:=decide_eq_true oM;refine U2 ?_;refine .bo fun b1=> ?_;refine U5 ?_;refine .cl (fun H hs=> aA.is (.bool true) (by rewrite [decide_eq_true c1];rfl) (mC M H a b 1 40)) ?_;refine UC ?_;refine .rt hK func149 results149 [_] ?_;exact fun H' hs=> ⟨hs.base,by rw[e];rfl⟩
  ·have e:QK a b=false:=decide_eq_false oM;refine U2 ?_;refine .bo fun b1=> ?_;refine U5 ?_;refine .cl (fun H hs=> aA.is (.bool true) (by rewrite [decide_eq_true c1];rfl) (mC M H a b 1 40)) ?_;refine UC ?_;refine .rt hK func149 results149 [_] ?_;exact fun H' hs=> ⟨hs.base,by rw[e];rfl⟩
 ·have e:QK a b=false:=decide_eq_false oM;refine U2 ?_;refine .bo fun b1=> ?_;refine U5 ?_;refine .cl (fun H hs=> aA.is (.bool false) (by rewrite [decide_eq_false c1];rfl) (mC M H a b 1 40)) ?_;refine UC ?_;refine .rt hK func149 results149 [_] ?_;exact fun H' hs=> ⟨hs.base,by rw[e];rfl⟩
theorem O0(a b x y:Int):aA M 150 #[.agg ⟨[.int .i64 a,.int .i64 b,.int .i64 x,.int .i64 y]⟩] H (fun v H'=> H.le H'/\v=.int .i64 (if BG a b&&mH x y then 0 else 1)):=by
 refine .en func150 ntmps150 fun St c cs hK=> ?_;by_cases c1:a<=b/\ -9<=a/\b<=9
 ·by_cases c2:b-a≥3
  ·have e:(BG a b&&mH x y)=false:=by unfold BG;rw[decide_eq_false oM];rfl
   refine U2 ?_;refine .bo fun b1=> ?_;refine U7 ?_;refine .cl (fun H hs=> aA.is (.bool true) (by rewrite [decide_eq_true c1];rfl) (mC M H a b (-9) 9)) ?_;refine q9 ?_;refine .rt hK func150 results150 [_] ?_;exact fun H' hs=> ⟨hs.base,by rw[e];rfl⟩
  ·by_cases c3:x<=y/\ -12<=x/\y<=12
   ·have e:(BG a b&&mH x y)=true:=by unfold BG mH;rw[decide_eq_true oM,decide_eq_true oM];rfl
    refine U2 ?_;refine .bo fun b1=> ?_;refine U7 ?_;refine .cl (fun H hs=> aA.is (.bool true) (by rewrite [decide_eq_true c1];rfl) (mC M H a b (-9) 9)) ?_;refine lF ?_;refine .cl (fun H hs=> aA.is (.bool true) (by rewrite [decide_eq_true c3];rfl) (mC M H x y (-12) 12)) ?_;refine U9 ?_;refine .rt hK func150 results150 [_] ?_;exact fun H' hs=> ⟨hs.base,by rw[e];rfl⟩
   ·have e:(BG a b&&mH x y)=false:=by unfold mH;rw[decide_eq_false (p:= -12<=x/\x<=y/\y<=12/\y-x<25) oM];simp
    refine U2 ?_;refine .bo fun b1=> ?_;refine U7 ?_;refine .cl (fun H hs=> aA.is (.bool true) (by rewrite [decide_eq_true c1];rfl) (mC M H a b (-9) 9)) ?_;refine lF ?_;refine .cl (fun H hs=> aA.is (.bool false) (by rewrite [decide_eq_false c3];rfl) (mC M H x y (-12) 12)) ?_;refine U8 ?_;refine .rt hK func150 results150 [_] ?_;exact fun H' hs=> ⟨hs.base,by rw[e];rfl⟩
 ·have e:(BG a b&&mH x y)=false:=by unfold BG;rw[decide_eq_false oM];rfl
  refine U2 ?_;refine .bo fun b1=> ?_;refine U7 ?_;refine .cl (fun H hs=> aA.is (.bool false) (by rewrite [decide_eq_false c1];rfl) (mC M H a b (-9) 9)) ?_;refine q9 ?_;refine .rt hK func150 results150 [_] ?_;exact fun H' hs=> ⟨hs.base,by rw[e];rfl⟩
theorem Lk.ok_eq(k:Lk):k.ok=(k.sends&&k.reads&&(k.PY&&k.yP)):=by
 simp[Lk.ok,NI,Lk.W3,Bool.and_assoc]
theorem vR(k:Lk):aA M 62 #[k.val] H (fun v H'=> H.le H'/\v=.int .i64 (if k.ok then 0 else 1)):=by
 refine .en func62 ntmps62 fun St c cs hK=> ?_;cases h1:k.sends with
 | false=>
  have e:k.ok=false:=by rw[Lk.ok_eq,h1];rfl
  refine U2 ?_;refine .bo fun b1=> ?_;refine U7 ?_;refine .cl (fun H hs=> aA.mono (EG M H k.s0 k.s1) (Q':=fun v H'=> H.le H'/\v=.bool false) (by rintro v H' ⟨h2,h3⟩;exact⟨h2,h3.trans (congrArg Value.bool h1)⟩)) ?_;refine ZF ?_;refine .rt hK func62 results62 [_] ?_;exact fun H' hs=> ⟨hs.base,by rw[e];rfl⟩
 | true=>
  cases h2:k.reads with
  | false=>
   have e:k.ok=false:=by rw[Lk.ok_eq,h1,h2];rfl
   refine U2 ?_;refine .bo fun b1=> ?_;refine U7 ?_;refine .cl (fun H hs=> aA.mono (EG M H k.s0 k.s1) (Q':=fun v H'=> H.le H'/\v=.bool true) (by rintro v H' ⟨h2,h3⟩;exact⟨h2,h3.trans (congrArg Value.bool h1)⟩)) ?_;refine U4 ?_;refine .cl (fun H hs=> aA.mono (EG M H k.r0 k.r1) (Q':=fun v H'=> H.le H'/\v=.bool false) (by rintro v H' ⟨h4,h3⟩;exact⟨h4,h3.trans (congrArg Value.bool h2)⟩)) ?_;refine U8 ?_;refine .rt hK func62 results62 [_] ?_;exact fun H' hs=> ⟨hs.base,by rw[e];rfl⟩
  | true=>
   have e:k.ok=(BG k.l0 k.l1&&mH k.m0 k.m1):=by rw[Lk.ok_eq,h1,h2];rfl
   refine U2 ?_;refine .bo fun b1=> ?_;refine U7 ?_;refine .cl (fun H hs=> aA.mono (EG M H k.s0 k.s1) (Q':=fun v H'=> H.le H'/\v=.bool true) (by rintro v H' ⟨h2,h3⟩;exact⟨h2,h3.trans (congrArg Value.bool h1)⟩)) ?_;refine U4 ?_;refine .cl (fun H hs=> aA.mono (EG M H k.r0 k.r1) (Q':=fun v H'=> H.le H'/\v=.bool true) (by rintro v H' ⟨h4,h3⟩;exact⟨h4,h3.trans (congrArg Value.bool h2)⟩)) ?_;refine U9 ?_;refine .cl (fun H hs=> O0 M H k.l0 k.l1 k.m0 k.m1) ?_;refine U2 ?_;refine .rt hK func62 results62 [_] ?_;exact fun H' hs=> ⟨hs.base,by rw[e];rfl⟩
theorem W1(k:Lk):aA M 17 #[k.val] H (fun v H'=> H.le H'/\v=.bool k.ok):=by
 refine .en func17 ntmps17 fun St c cs hK=> ?_;cases h:k.ok with
 | true=>
  refine U2 ?_;refine .bo fun b1=> ?_;refine U5 ?_;refine .cl (fun H hs=> aA.is (.int .i64 0) (by rewrite [h];rfl) (vR M H k)) ?_;refine U3 ?_;refine .rt hK func17 results17 [_] ?_;exact fun H' hs=> ⟨hs.base,by rw[h];rfl⟩
 | false=>
  refine U2 ?_;refine .bo fun b1=> ?_;refine U5 ?_;refine .cl (fun H hs=> aA.is (.int .i64 1) (by rewrite [h];rfl) (vR M H k)) ?_;refine U3 ?_;refine .rt hK func17 results17 [_] ?_;exact fun H' hs=> ⟨hs.base,by rw[h];rfl⟩
end
def XE(l:List Int):List Int:=l++List.replicate (6-l.length) 0
theorem qJ {l:List Int}(h:l.length<=6):(XE l).length=6:=by simp[XE];omega
def qE(p:Int->Bool):List Int->Option (Int×Int)->Option (Int×Int)
 | [],o=> o
 | n::l,o=> qE p l (if p n then some (match o with|some (a,_)=> (a,n)|none=> (n,n)) else o)
def Lk.cN(k:Lk)(ps:List Nat)(t:List Int):Option (Int×Int):=qE (fun n=> k.wG ps n (YA t ps.length)) (KE k.s0 k.s1) none
def aD2(o:Option (Int×Int)):Value:=match o with|some (a,b)=> YB a b|none=> YB 0 0
def oZ(o:Option (Int×Int)):List Value:=match o with|some (a,b)=> [.int .i64 a,.int .i64 b] | none=> [.int .i64 0,.int .i64 0]
section
variable(M:Md prog)(H:View)
def tL(code eb ec:Nat)(k:Lk)(t:List Int)(o:Option (Int×Int))(b3 b4 b5 b6 b7 b8 n:Nat):Bl:=
 [(b8,true,.cells ⟨jA (YA t n)⟩ 139 (0,0)),(b7,true,.cells ⟨[.bool o.isSome]⟩ 4 (0,0)),(b6,true,.cells ⟨oZ o⟩ 37 (0,0)),(b5,true,.cells ⟨jA t⟩ 139 (0,0)),
   (b4,true,.cells ⟨[.int .i64 code,.slice (some ⟨eb,0,none⟩) n ec]⟩ 135 (0,0)),(b3,true,.cells ⟨k.val.cells.toList⟩ 132 (0,0))]
theorem O7(k:Lk)(hk:k.FT)(code eb ec:Nat)(t:List Int)(hc:code<32)(hE:Edg H (gA code 7) eb)(hec:(gA code 7).length<=ec)(h2:2<=(gA code 7).length)(h6:t.length=6)(hb:∀x∈t, -10000<=x/\x<=10000):
  aA M 65 #[k.val,.agg ⟨[.int .i64 code,.slice (some ⟨eb,0,none⟩) (gA code 7).length ec]⟩,UK t] H (fun v H'=> H.le H'/\v=.tuple ⟨[aD2 (k.cN (gA code 7) t),.bool (k.cN (gA code 7) t).isSome]⟩):=by
 obtain⟨hp0,vQ,PZ⟩:=OE code hc;have iQ:=hk.bounds;simp only[List.mem_cons,List.not_mem_nil,or_false,forall_eq_or_imp,forall_eq] at iQ;obtain⟨k1,k2,k3,k4,k5,k6,k7,k8⟩:=iQ;have hks:=hk.s;have uK:(YA t (gA code 7).length).length=6:=by rw[ID,h6]
 have pI:∀x∈YA t (gA code 7).length, -100000<=x/\x<=100000:=by
  intro x hx;unfold YA at hx;obtain⟨y,hy,rfl⟩:=List.mem_map.1 hx;have h3:=hb y.1 (by
   have:=List.mem_zipIdx_iff_getElem?.1 hy;exact List.mem_of_getElem? this)
  have h4: -10000<=t.headD 0/\t.headD 0<=10000:=by
   cases t with
   | nil=> cases h6
   | cons a l=> exact hb a List.mem_cons_self
  split <;> omega
 have fT:BC true 6 (jA t) 0=some (.agg ⟨jA t⟩):=by
  unfold BC;have e1:Nat.ble (0+6) (jA t).length=true:=by rw[uA,h6];rfl
  simp only[e1];rw[List.drop_zero,List.take_of_length_le (by rw[uA,h6];exact Nat.le_refl _)]
 have fA:BC true 6 (jA (YA t (gA code 7).length)) 0=some (.agg ⟨jA (YA t (gA code 7).length)⟩):=by
  unfold BC;have e1:Nat.ble (0+6) (jA (YA t (gA code 7).length)).length=true:=by rw[uA,uK];rfl
  simp only[e1];rw[List.drop_zero,List.take_of_length_le (by rw[uA,uK];exact Nat.le_refl _)]
 have lA:Nat.beq (jA (YA t (gA code 7).length)).length 6=true:=by rw[uA,uK];rfl
 have lB:(jA (YA t (gA code 7).length)).all single=true:=by
  rw[List.all_eq_true];intro y hy;obtain⟨z,_,rfl⟩:=List.mem_map.1 hy;rfl
 have lC:yE [Value.int .i64 0,.int .i64 0,.int .i64 0,.int .i64 0,.int .i64 0,.int .i64 0] 0 (jA (YA t (gA code 7).length))=jA (YA t (gA code 7).length):=by
  unfold yE;rw[List.take_zero,List.nil_append,List.drop_eq_nil_of_le (by rw[uA,uK];simp),List.append_nil]
 refine .en func65 ntmps65 fun St c cs hK=> ?_;refine U2 ?_;refine .bo fun b3=> ?_;refine .bo fun b4=> ?_;refine .bo fun b5=> ?_;refine .al fun b6=> ?_;refine .al fun b7=> ?_;refine U7 ?_;refine .cl (fun H hs=> TR M H t (gA code 7).length h6 vQ (fun x hx=> by have:=hb x hx;omega)) ?_;refine .al fun b8=> ?_;refine .e (Or.storeT (E:=en) 0 rfl rfl rfl rfl rfl lA rfl (by exact rfl) lB rfl lC ?_);refine U7 ?_;refine .cl (fun H hs=> rE M H k.s0 k.s1) ?_;refine U3 ?_;have itS:=fun H (_:(fun _:View=> True) H)=> gH M H k.s0 k.s1 oM oM;refine Tc.db (R':= [(19,.func (.func 154) #[YB k.s0 k.s1] #[]),(3,.pointer (some ⟨b3,0,none⟩)),(4,.pointer (some ⟨b4,0,none⟩)),(6,.pointer (some ⟨b6,0,none⟩)),(7,.pointer (some ⟨b7,0,none⟩)),(8,.pointer (some ⟨b8,0,none⟩))]) (L':=tL code eb ec k t none b3 b4 b5 b6 b7 b8 (gA code 7).length) ?_;refine Tc.aI (A:= []) (xs:=KE k.s0 k.s1) (ts:= [20]) (fun rest H₁ L₁=> ∃o,L₁=tL code eb ec k t o b3 b4 b5 b6 b7 b8 (gA code 7).length/\H.le H₁/\qE (fun n=> k.wG (gA code 7) n (YA t (gA code 7).length)) rest o=k.cN (gA code 7) t)
  (fun _ _ _=> False) rfl rfl rfl rfl itS (fun _ _ _ h=> h) (fun _ _ _ _=> trivial) rfl (fun _ _=> rfl) ⟨none,rfl,View.le_refl _,rfl⟩ ?_ ?_ ?_
 ·rintro r n rest e l tmps asg bdy H₁ _ hn ⟨o,rfl,XC,hto⟩ Q1 St1 cc1 cs1 eK q1 q1';have ZK:=wE.1 hn;unfold tL;refine U3 ?_;refine Tc.beginRound (i:=0) rfl rfl rfl ?_;refine U3 ?_;cases hg:k.wG (gA code 7) n (YA t (gA code 7).length) with
  | false=>
   have OU:qE (fun n=> k.wG (gA code 7) n (YA t (gA code 7).length)) rest o=k.cN (gA code 7) t:=by
    rw[<-hto];unfold qE;simp only[hg];cases rest <;> rfl
   refine U ?_;refine .x (.ld 7) ?_;refine U3 ?_;refine .cl (fun H hs=> aA.is (.bool false) (by rewrite [hg];rfl) (yY M H k hk code eb ec n (YA t (gA code 7).length) hc ((hE.le XC).le hs.base) hec h2 uK pI oM)) ?_;refine U4 ?_;refine Tc.FA eK (i:=0) rfl (.inl ⟨rfl,rfl⟩) (fun H' hs'=> q1 H' _ _ (hs'.less sL) ⟨o,rfl,XC,OU⟩)
  | true=>
   refine U ?_;refine .x (.ld 7) ?_;refine U3 ?_;refine .cl (fun H hs=> aA.is (.bool true) (by rewrite [hg];rfl) (yY M H k hk code eb ec n (YA t (gA code 7).length) hc ((hE.le XC).le hs.base) hec h2 uK pI oM)) ?_;refine U2 ?_;cases o with
   | none=>
    have OU:qE (fun n=> k.wG (gA code 7) n (YA t (gA code 7).length)) rest (some (n,n))=k.cN (gA code 7) t:=by
     rw[<-hto];show _=qE _ rest _;simp only[hg];rfl
    refine lO ?_;refine Tc.FA eK (i:=0) rfl (.inl ⟨rfl,rfl⟩) (fun H' hs'=> q1 H' _ _ (hs'.less sL) ⟨some (n,n),rfl,XC,OU⟩)
   | some ab=>
    obtain⟨a,b⟩:=ab;have OU:qE (fun n=> k.wG (gA code 7) n (YA t (gA code 7).length)) rest (some (a,n))=k.cN (gA code 7) t:=by
     rw[<-hto];show _=qE _ rest _;simp only[hg];rfl
    refine BI ?_;refine Tc.FA eK (i:=0) rfl (.inl ⟨rfl,rfl⟩) (fun H' hs'=> q1 H' _ _ (hs'.less sL) ⟨some (a,n),rfl,XC,OU⟩)
 ·rintro r H₁ _ ⟨o,rfl,XC,hto⟩;have OU:o=k.cN (gA code 7) t:=hto;unfold tL;refine U2 ?_;cases o with
  | none=>
   refine Tc.dr [2,3] [3] mixed rfl ?_;refine .nn 0 ?_;refine .nw 1 ?_;refine .e 2 3 ?_;refine .e 3 2 ?_;refine .dn ?_;refine Tc.gO (E:=en) (i:=0) hK func65 results65 (vs:= [_,_]) rfl (by refine⟨⟨3,_,_,_,_,_,_,_,rfl,rfl,rfl,rfl⟩,?_⟩;refine⟨⟨2,_,_,_,_,_,_,_,rfl,rfl,rfl,rfl⟩,?_⟩;exact trivial) ?_;exact fun H' hs=> ⟨View.le_trans XC hs.base,by rw[<-OU];rfl⟩
  | some ab=>
   obtain⟨a,b⟩:=ab;refine Tc.dr [2,3] [3] mixed rfl ?_;refine .nn 0 ?_;refine .nw 1 ?_;refine .e 2 3 ?_;refine .e 3 2 ?_;refine .dn ?_;refine Tc.gO (E:=en) (i:=0) hK func65 results65 (vs:= [_,_]) rfl (by refine⟨⟨3,_,_,_,_,_,_,_,rfl,rfl,rfl,rfl⟩,?_⟩;refine⟨⟨2,_,_,_,_,_,_,_,rfl,rfl,rfl,rfl⟩,?_⟩;exact trivial) ?_;exact fun H' hs=> ⟨View.le_trans XC hs.base,by rw[<-OU];rfl⟩
 ·rintro r j H₁ _ h;exact h.elim
end
structure Told(l:List Int):Prop where
 len:l.length<=6
 pos:l≠ []
 max:∀x∈l, -999<=x/\x<=999
structure KJ(H:View)(A:Option Addr)(l:List Int):Prop where
 ex:∃ab ao f gs gt gz,A=some ⟨ab,ao,none⟩/\H ab=some (f,.cells ⟨gs⟩ gt gz)/\ao+l.length*1<=gs.length/\(gs.drop ao).take (l.length*1)=jA l
theorem KJ.le {H H':View}{A:Option Addr}{l:List Int}(h:KJ H A l)(k:H.le H'):KJ H' A l:=by
 obtain⟨ab,ao,f,gs,gt,gz,h1,h2,h3,h4⟩:=h.ex;exact⟨ab,ao,f,gs,gt,gz,h1,k _ _ h2,h3,h4⟩
theorem J7 {gs:List Value}{ao:Nat}{l:List Int}(h:(gs.drop ao).take (l.length*1)=jA l){j:Nat}(hj:j<l.length):BC false 1 gs (ao+(j:Int).toNat*1)=some (.int .i64 (l[j]?.getD 0)):=by
 show gs[ao+(j:Int).toNat*1]? =_;rw[Nat.mul_one,Int.toNat_natCast];have h1:((gs.drop ao).take (l.length*1))[j]? =(jA l)[j]? :=by rw[h]
 rw[List.getElem?_take_of_lt oM,List.getElem?_drop] at h1;rw[h1];unfold jA;rw[List.getElem?_map,List.getElem?_eq_getElem hj];rfl
section
variable(M:Md prog)(H:View)
theorem aDP(l:List Int)(hl:Told l)(A:Option Addr)(cap:Nat)(hT:KJ H A l):aA M 64 #[.slice A l.length cap] H (fun v H'=> H.le H'/\v=.tuple ⟨[UK (XE l),.int .i64 0]⟩):=by
 obtain⟨ab,ao,f,gs,gt,gz,rfl,hA1,XV,hA3⟩:=hT.ex;obtain⟨hl6,uB,PF⟩:=hl;have hn0:jA l≠ []:=by
  cases l with
  | nil=> exact(uB rfl).elim
  | cons a l=> intro e;cases e
 have hsg:(jA l).all single=true:=by
  rw[List.all_eq_true];intro y hy;obtain⟨z,_,rfl⟩:=List.mem_map.1 hy;rfl
 have eC:yE [Value.int .i64 0,.int .i64 0,.int .i64 0,.int .i64 0,.int .i64 0,.int .i64 0] 0 (jA l)=jA (XE l):=by
  unfold yE XE;rw[List.take_zero,List.nil_append,Nat.zero_add,uA];have e1:jA (l++List.replicate (6-l.length) 0)=jA l++jA (List.replicate (6-l.length) 0):=by unfold jA;rw[List.map_append]
  rw[e1]
  congr 1
  have:l.length=0\/l.length=1\/l.length=2\/l.length=3\/l.length=4\/l.length=5\/l.length=6:=by omega
  rcases this with h|h|h|h|h|h|h <;> rw[h] <;> rfl
 have vQ:=qJ hl6;have fP:BC true 6 (jA (XE l)) 0=some (.agg ⟨jA (XE l)⟩):=by
  unfold BC;have e1:Nat.ble (0+6) (jA (XE l)).length=true:=by rw[uA,vQ];rfl
  simp only[e1];rw[List.drop_zero,List.take_of_length_le (by rw[uA,vQ];exact Nat.le_refl _)]
 have lA:Nat.beq (jA (XE l)).length 6=true:=by rw[uA,vQ];rfl
 have lB:(jA (XE l)).all single=true:=by
  rw[List.all_eq_true];intro y hy;obtain⟨z,_,rfl⟩:=List.mem_map.1 hy;rfl
 have lC:yE [Value.int .i64 0,.int .i64 0,.int .i64 0,.int .i64 0,.int .i64 0,.int .i64 0] 0 (jA (XE l))=jA (XE l):=by
  unfold yE;rw[List.take_zero,List.nil_append,List.drop_eq_nil_of_le (by rw[uA,vQ];simp),List.append_nil]
 refine .en func64 ntmps64 fun St c cs hK=> ?_;refine U2 ?_;refine .al fun b2=> ?_;refine U4 ?_;refine .al fun b4=> ?_;refine U9 ?_;refine Tc.db (Tc.sA (σ:= { j:Nat//j<=l.length }) (fun j=> ([(0,.slice (some ⟨ab,ao,none⟩) l.length cap),(2,.pointer (some ⟨b2,0,none⟩)),(4,.pointer (some ⟨b4,0,none⟩)),(7,.slice (some ⟨ab,ao,none⟩) l.length cap),(8,.int .i64 (l.length:Nat)),(9,.int .i64 (j.1:Nat))],
  [(b4,true,.cells ⟨[.int .i64 0,.int .i64 0,.int .i64 0,.int .i64 0,.int .i64 0,.int .i64 0]⟩ 139 (0,0)),(b2,true,.cells ⟨[.int .i64 0,.int .i64 0,.int .i64 0,.int .i64 0,.int .i64 0,.int .i64 0]⟩ 139 (0,0))])) (fun j=> l.length-j.1) ?_ ⟨0,oM⟩)
 rintro⟨j,hj⟩ ih;show Tc M St _ _ _ _ [(0,.slice (some ⟨ab,ao,none⟩) l.length cap),(2,.pointer (some ⟨b2,0,none⟩)),(4,.pointer (some ⟨b4,0,none⟩)),(7,.slice (some ⟨ab,ao,none⟩) l.length cap),(8,.int .i64 (l.length:Nat)),(9,.int .i64 (j:Nat))]
  [(b4,true,.cells ⟨[.int .i64 0,.int .i64 0,.int .i64 0,.int .i64 0,.int .i64 0,.int .i64 0]⟩ 139 (0,0)),(b2,true,.cells ⟨[.int .i64 0,.int .i64 0,.int .i64 0,.int .i64 0,.int .i64 0,.int .i64 0]⟩ 139 (0,0))] _ _
 by_cases c1:j=l.length
 ·refine U9 ?_;refine .x (xA.OX (E:=en) (off':=0) rfl rfl rfl rfl rfl rfl rfl rfl dE dE dE (by rw[if_neg dE];rfl)) ?_;refine U ?_;refine .e (Or.copy (E:=en) (m:=l.length) 0 rfl rfl rfl rfl rfl rfl rfl rfl rfl rfl rfl (fun H hs=> hA3▸UA.of (hs.base _ _ hA1) XV) hsg hl6 dE hn0 rfl dE eC ?_);refine U4 ?_;refine .e (Or.storeT (E:=en) 1 rfl rfl rfl rfl rfl lA rfl (by exact rfl) lB rfl lC ?_);refine U2 ?_;refine Tc.aCz (E:=en) hK func64 results64 (vs:= [.agg ⟨jA (XE l)⟩,_]) (by refine⟨⟨1,_,_,_,_,_,_,_,rfl,rfl,rfl,fP⟩,⟨rfl,trivial⟩⟩) ?_;exact okB
 ·have c2:j<l.length:=by omega
  have f1:=J7 hA3 c2;have hm:=PF (l[j]?.getD 0) (by rw[List.getElem?_eq_getElem c2];exact List.getElem_mem c2);refine U31 ?_;exact Tc.db (ih ⟨j+1,oM⟩ (by simp only;omega))
end
theorem TY {l:List Int}(h:Told l):∀x∈XE l, -10000<=x/\x<=10000:=by
 intro x hx;unfold XE at hx;rcases List.mem_append.1 hx with h1|h1
 ·have:=h.max x h1;omega
 ·have:=(List.mem_replicate.1 h1).2;omega
theorem aAC {l:List Int}(h:l.length<=6):BC true 6 (jA (XE l)) 0=some (.agg ⟨jA (XE l)⟩):=by
 have vQ:=qJ h;unfold BC;have e1:Nat.ble (0+6) (jA (XE l)).length=true:=by rw[uA,vQ];rfl
 simp only[e1];rw[List.drop_zero,List.take_of_length_le (by rw[uA,vQ];exact Nat.le_refl _)]
def aD0(o:Option (Int×Int))(H:View)(v:Value)(H':View):Prop:=H.le H'/\v=(match o with|some (a,b)=> .tuple ⟨[YB a b,.int .i64 0]⟩|none=> .tuple ⟨[YB 0 0,.int .i64 10]⟩)
section
variable(M:Md prog)(H:View)
theorem X2(k:Lk)(code:Nat)(hG:HC H)(hk:k.ok=true)(hc:code<32)(l:List Int)(hl:Told l)(h2:2<=l.length)(hlen:l.length=(gA code 7).length)(A:Option Addr)(cap:Nat)(hT:KJ H A l):
  aA M 18 #[k.val,.int .i64 code,.slice A l.length cap] H (aD0 (k.cN (gA code 7) (XE l)) H):=by
 refine .en func18 ntmps18 fun St c cs hK=> ?_;have vQ:=qJ hl.len;have fP:=aAC hl.len;have lA:Nat.beq (jA (XE l)).length 6=true:=by rw[uA,vQ];rfl
 have lB:(jA (XE l)).all single=true:=by
  rw[List.all_eq_true];intro y hy;obtain⟨z,_,rfl⟩:=List.mem_map.1 hy;rfl
 have lC:yE [Value.int .i64 0,.int .i64 0,.int .i64 0,.int .i64 0,.int .i64 0,.int .i64 0] 0 (jA (XE l))=jA (XE l):=by
  unfold yE;rw[List.take_zero,List.nil_append,List.drop_eq_nil_of_le (by rw[uA,vQ];simp),List.append_nil]
 refine U2 ?_;refine .bo fun b3=> ?_;refine .al fun b6=> ?_;refine U6 ?_;refine .e (Or.SB (fun x=> .tuple ⟨[k.val,VU code x,.int .i64 0]⟩) (wQ code) (fun x=> (gA code 7).length<=x.2.1) rfl rfl rfl rfl rfl dE (VH code) (fun H hs=> .h (BX M H k code (EA hG hs.base) hk hc)) (fun x hx=> ?_));refine U4 ?_;refine .al fun b8=> ?_;refine .al fun b9=> ?_;refine U27 ?_;refine .cl (fun H hs=> aDP M H l hl A cap (hT.le hs.base)) ?_;refine U3 ?_;refine .al fun b11=> ?_;refine .e (Or.storeT (E:=en) 0 rfl rfl rfl rfl rfl lA rfl (by exact rfl) lB rfl lC ?_);refine YD ?_;cases ht:k.cN (gA code 7) (XE l) with
 | none=>
  refine U4 ?_;refine .cl (fun H hs=> aA.is (.tuple ⟨[YB 0 0,.bool false]⟩) (by rewrite [ht];rfl) (O7 M H k (Lk.aBS hk) code x.1 x.2.1 (XE l) hc (KW fun y hy=> hs.at_ y (by simp[hy])) hx oM (qJ hl.len) (TY hl))) ?_;refine U3 ?_;refine .al fun b12=> ?_;refine lN ?_;refine .rt hK func18 results18 [_,_] ?_;exact fun H2 hs=> ⟨hs.base,by rw[ht];rfl⟩
 | some ab=>
  obtain⟨a,b⟩:=ab;refine U4 ?_;refine .cl (fun H hs=> aA.is (.tuple ⟨[YB a b,.bool true]⟩) (by rewrite [ht];rfl) (O7 M H k (Lk.aBS hk) code x.1 x.2.1 (XE l) hc (KW fun y hy=> hs.at_ y (by simp[hy])) hx oM (qJ hl.len) (TY hl))) ?_;refine U3 ?_;refine .al fun b12=> ?_;refine BI ?_;refine .rt hK func18 results18 [_,_] ?_;exact fun H2 hs=> ⟨hs.base,by rw[ht];rfl⟩
end
def Lk.aAK(k:Lk)(a b:Int):Lk:=⟨a,b,k.r0,k.r1,k.l0,k.l1,k.m0,k.m1⟩
section
variable(M:Md prog)(H:View)
theorem oW(k:Lk)(code:Nat)(hG:HC H)(hk:k.ok=true)(hc:code<32)(A:Option Addr)(n cap:Nat)(hn:n≠(gA code 7).length):
  aA M 18 #[k.val,.int .i64 code,.slice A n cap] H (fun v H'=> H.le H'/\v=.tuple ⟨[YB 0 0,.int .i64 2]⟩):=by
 refine .en func18 ntmps18 fun St c cs hK=> ?_;refine U2 ?_;refine .bo fun b3=> ?_;refine .al fun b6=> ?_;refine U6 ?_;refine .e (Or.SB (fun x=> .tuple ⟨[k.val,VU code x,.int .i64 0]⟩) (wQ code) (fun x=> (gA code 7).length<=x.2.1) rfl rfl rfl rfl rfl dE (VH code) (fun H hs=> .h (BX M H k code (EA hG hs.base) hk hc)) (fun x hx=> ?_));refine U4 ?_;refine .al fun b8=> ?_;refine .al fun b9=> ?_;refine U29 ?_;refine .rt hK func18 results18 [_,_] ?_;exact fun H2 hs=> ⟨hs.base,rfl⟩
theorem kZ(k:Lk)(code a b:Int)(A:Option Addr)(n cap:Nat)(hT:∀H',H.le H'->aA M 18 #[k.val,.int .i64 code,.slice A n cap] H' (fun v H''=> H'.le H''/\v=.tuple ⟨[YB a b,.int .i64 0]⟩)):
  aA M 21 #[k.val,.int .i64 code,.slice A n cap] H (fun v H'=> H.le H'/\v=.tuple ⟨[(k.aAK a b).val,.int .i64 0]⟩):=by
 refine .en func21 ntmps21 fun St c cs hK=> ?_;refine U2 ?_;refine .bo fun b3=> ?_;refine .al fun b6=> ?_;refine U7 ?_;refine .cl (fun H hs=> hT H hs.base) ?_;refine U3 ?_;refine .al fun b8=> ?_;refine q9 ?_;refine .rt hK func21 results21 [_,_] ?_;exact okB
theorem J2(k:Lk)(code e:Int)(he:e≠0)(A:Option Addr)(n cap:Nat)(hT:∀H',H.le H'->aA M 18 #[k.val,.int .i64 code,.slice A n cap] H' (fun v H''=> H'.le H''/\v=.tuple ⟨[YB 0 0,.int .i64 e]⟩)):
  aA M 21 #[k.val,.int .i64 code,.slice A n cap] H (fun v H'=> H.le H'/\v=.tuple ⟨[lk0.val,.int .i64 e]⟩):=by
 refine .en func21 ntmps21 fun St c cs hK=> ?_;refine U2 ?_;refine .bo fun b3=> ?_;refine .al fun b6=> ?_;refine U7 ?_;refine .cl (fun H hs=> hT H hs.base) ?_;refine U3 ?_;refine .al fun b8=> ?_;refine BI ?_;refine .rt hK func21 results21 [_,_] ?_;exact okB
end
section
variable(M:Md prog)(H:View)
theorem aDY(A:Option Addr)(l:List Int)(n ca:Nat)(x:Int)(hn:n=l.length)(h6:n<=1000)(hA:MG H A l):aA M 28 #[.slice A n ca,.int .i64 x] H (fun v H'=> H.le H'/\v=.bool (decide (x∈l))):=by
 refine .en func28 ntmps28 fun St c cs hK=> ?_;refine UC ?_;refine Tc.db (Tc.sA (σ:= { j:Nat//j<=n/\∀i,i<j->l[i]?.getD 0≠x }) (fun j=> ([(0,.slice A n ca),(1,.int .i64 x),(4,.bool false),(5,.int .i64 (j.1:Nat))],[])) (fun j=> n-j.1) ?_ ⟨0,oM,oM⟩);rintro⟨j,hj,YC⟩ ih;show Tc M St _ _ _ _ [(0,.slice A n ca),(1,.int .i64 x),(4,.bool false),(5,.int .i64 (j:Nat))] [] _ _;by_cases c1:j=n
 ·have hx:¬x∈l:=fun hm=> by
   obtain⟨i,hi,he⟩:=List.mem_iff_getElem.1 hm;have:=YC i oM;rw[List.getElem?_eq_getElem hi] at this;exact this he
  subst c1;refine lF ?_;refine .rt hK func28 results28 [_] ?_;exact fun H' hs=> ⟨hs.base,by rw[decide_eq_false hx];rfl⟩
 ·have c2:j<n:=by omega
  rcases hA with hA|⟨a1,a2,a3,a4,a5,a6,rfl,a7,a8⟩
  ·rw[hA] at hn;simp at hn;omega
  have f1:=a8 j oM;by_cases c3:l[j]?.getD 0=x
  ·have hx:x∈l:=by
    rw[List.getElem?_eq_getElem (show j<l.length by omega)] at c3;rw[<-c3];exact List.getElem_mem _
   refine U26 ?_;refine .rt hK func28 results28 [_] ?_;exact fun H' hs=> ⟨hs.base,by rw[decide_eq_true hx];rfl⟩
  ·refine U29 ?_;exact Tc.db (ih ⟨j+1,oM,by intro i hi;rcases Nat.lt_succ_iff_lt_or_eq.1 hi with h|rfl;exact YC i h;exact c3⟩ (by simp only;omega))
theorem AO(A:Option Addr)(l:List Int)(n ca:Nat)(m:Int)(hn:n=l.length)(h6:n<=1000)(hm:0<=m/\m<=100000)(hA:MG H A l)(h1:∀i,i<n->0<=l[i]?.getD 0/\l[i]?.getD 0<=m-1)(h2:∀i,0<i->i<n->l[i-1]?.getD 0<l[i]?.getD 0):
  aA M 69 #[.slice A n ca,.int .i64 m] H (fun v H'=> H.le H'/\v=.int .i64 0):=by
 refine .en func69 ntmps69 fun St c cs hK=> ?_;refine UC ?_;refine Tc.db (Tc.sA (σ:= { j:Nat//j<=n }) (fun j=> ([(0,.slice A n ca),(1,.int .i64 m),(4,.int .i64 0),(5,.int .i64 (j.1:Nat))],[])) (fun j=> n-j.1) ?_ ⟨0,oM⟩);rintro⟨j,hj⟩ ih;show Tc M St _ _ _ _ [(0,.slice A n ca),(1,.int .i64 m),(4,.int .i64 0),(5,.int .i64 (j:Nat))] [] _ _;by_cases c1:j=n
 ·subst c1;refine lF ?_;refine .rt hK func69 results69 [_] ?_;exact okB
 ·have c2:j<n:=by omega
  rcases hA with hA|⟨a1,a2,a3,a4,a5,a6,rfl,a7,a8⟩
  ·rw[hA] at hn;simp at hn;omega
  have f1:=a8 j oM;have g1:=h1 j c2;have jK:∀H,aA M 24 #[.int .i64 (l[j]?.getD 0),.int .i64 0,.int .i64 (m-1)] H (fun v H'=> H.le H'/\v=.bool true):=fun H=>
   aA.mono (DK M H _ 0 (m-1)) (by rintro v H' ⟨h1,h2⟩;rw[decide_eq_true g1] at h2;exact⟨h1,h2⟩)
  by_cases c0:j=0
  ·subst c0;refine lO ?_;refine .cl (fun H hs=> jK H) ?_;refine U5 ?_;refine Tc.dr [] [] mixed rfl ?_;refine V3 0 ?_;refine .nw 3 ?_;refine .nw 4 ?_;refine .nw 5 ?_;refine .nw 6 ?_;refine .nw 7 ?_;refine .nw 8 ?_;refine .nw 9 ?_;refine .nw 10 ?_;refine .nw 11 ?_;refine .nw 12 ?_;refine .nn 13 ?_;refine .dn ?_;refine U8 ?_;exact Tc.db (ih ⟨1,oM⟩ (by simp only;omega))
  ·have f2:BC false 1 a4 (a2+((j:Int)-1).toNat*1)=some (.int .i64 (l[j-1]?.getD 0)):=by
    have:=a8 (j-1) oM
    rwa [show(((j-1:Nat):Int)).toNat=((j:Int)-1).toNat by omega] at this
   have g2:=h2 j oM c2;refine lO ?_;refine .cl (fun H hs=> jK H) ?_;refine U5 ?_;refine Tc.dr [] [] mixed rfl ?_;refine V14 0 ?_;refine .dn ?_;refine U8 ?_;exact Tc.db (ih ⟨j+1,oM⟩ (by simp only;omega))
end
end Go.Proofs.YtldmfjcgjdchcaaGreatDoor.Sg
namespace Go.Proofs.YtldmfjcgjdchcaaGreatDoor.Sg
open Go.RL Go.Proofs.Tryz Go.Conc
set_option maxRecDepth 10000
set_option maxHeartbeats 4000000
section
end
section
end
end Go.Proofs.YtldmfjcgjdchcaaGreatDoor.Sg
namespace Go.Proofs.YtldmfjcgjdchcaaGreatDoor.Sg
open Go.RL Go.Proofs.Tryz
set_option maxRecDepth 10000
set_option maxHeartbeats 4000000
section
variable(M:Md prog)(H:View)
theorem NY(x:Int):aA M 310 #[.int .i64 x] H (fun v H'=> H.le H'/\v=.bool false):=by
 refine .en func310 ntmps310 fun St c cs hK=> ?_;refine YD ?_;refine .rt hK func310 results310 [_] ?_;exact okB
end
section
variable(M:Md prog)(H:View)
end
end Go.Proofs.YtldmfjcgjdchcaaGreatDoor.Sg
