/-
 Texts of the proofs over baudot/dial.
-/
import Derived.Test.YtgkmnalhddmclaaGreatDoorT04
namespace Go.RL
open Go.Conc
structure eC(es:Array MapEntry)(cl:Nat)(F:Value->Value->Prop):Prop where
 keys:(es.toList.map (·.key)).Nodup
 GR:(es.toList.map (·.born)).Nodup
 lt:∀e∈es.toList,e.born<cl
 mem:∀k v,F k v<->∃e∈es.toList,e.key=k/\e.val=v
theorem eC.nil:eC #[] 0 fun _ _=> False:=⟨by simp,by simp,by simp,by simp⟩
theorem eC.congr {es:Array MapEntry}{cl:Nat}{F F':Value->Value->Prop}(h:eC es cl F)(k:∀a b,F' a b<->F a b):eC es cl F':=⟨h.keys,h.GR,h.lt,fun a b=> (k a b).trans (h.mem a b)⟩
theorem eC.find {es:Array MapEntry}{cl:Nat}{F:Value->Value->Prop}(h:eC es cl F){k:Value}{r:Option (Nat×Value)}(hr:fG es.toList k r):match r with
  | some (_,v)=> F k v
  | none=> ∀v,¬F k v:=by
 cases r with
 | none=>
  intro v hv;obtain⟨e,he,h1,_⟩:=(h.mem k v).1 hv;exact hr e he h1
 | some p=>
  obtain⟨i,v⟩:=p;obtain⟨e,h1,h2,h3⟩:=hr;exact(h.mem k v).2 ⟨e,List.mem_of_getElem? h1,h2,h3⟩
theorem eC.put {es:Array MapEntry}{cl:Nat}{F:Value->Value->Prop}(h:eC es cl F){k:Value}(v:Value){r:Option (Nat×Value)}(hr:fG es.toList k r):
  ∃es' cl',QZ es cl k v r=.map es' cl'/\eC es' cl' fun k' v'=> (k'=k/\v'=v)\/(k'≠k/\F k' v'):=by
 cases r with
 | none=>
  refine⟨_,_,rfl,?_,?_,?_,?_⟩
  ·simp only[Array.toList_push,List.map_append,List.map_cons,List.map_nil];rw[List.nodup_append];refine⟨h.keys,by simp,fun a ha b hb=> ?_⟩;simp only[List.mem_singleton] at hb;subst hb;obtain⟨e,he,rfl⟩:=List.mem_map.1 ha;exact hr e he
  ·simp only[Array.toList_push,List.map_append,List.map_cons,List.map_nil];rw[List.nodup_append];refine⟨h.GR,by simp,fun a ha b hb=> ?_⟩;simp only[List.mem_singleton] at hb;subst hb;obtain⟨e,he,rfl⟩:=List.mem_map.1 ha;have:=h.lt e he;omega
  ·intro e he;simp only[Array.toList_push,List.mem_append,List.mem_singleton] at he;rcases he with he|rfl
   ·have:=h.lt e he;omega
   ·simp
  ·intro k' v';simp only[Array.toList_push,List.mem_append,List.mem_singleton];constructor
   ·rintro(⟨rfl,rfl⟩|⟨_,hf⟩)
    ·exact⟨_,.inr rfl,rfl,rfl⟩
    ·obtain⟨e,he,h1,h2⟩:=(h.mem k' v').1 hf;exact⟨e,.inl he,h1,h2⟩
   ·rintro⟨e,he|rfl,h1,h2⟩
    ·exact .inr ⟨fun e'=> hr e he (h1.trans e'),(h.mem k' v').2 ⟨e,he,h1,h2⟩⟩
    ·exact .inl ⟨h1.symm,h2.symm⟩
 | some p=>
  obtain⟨i,u⟩:=p;obtain⟨e,h1,h2,h3⟩:=hr;have hi:=(List.getElem?_eq_some_iff.1 h1).1;have he:es.toList[i]=e:=(List.getElem?_eq_some_iff.1 h1).2;have CH:es.toList=es.toList.take i++e::es.toList.drop (i+1):=by
   rw[<-he,<-List.drop_eq_getElem_cons hi,List.take_append_drop]
  have hml:(es.modify i fun e=> { e with key:=k,val:=v }).toList=es.toList.take i++{ e with key:=k,val:=v }::es.toList.drop (i+1):=by
   rw[Array.toList_modify,List.modify_eq_take_cons_drop hi,he]
  have hk:=h.keys;rw[CH,List.map_append,List.map_cons] at hk;refine⟨_,_,rfl,?_,?_,?_,?_⟩
  ·rw[hml,List.map_append,List.map_cons];rw[h2] at hk;exact hk
  ·have hb:=h.GR;rw[CH,List.map_append,List.map_cons] at hb;rw[hml,List.map_append,List.map_cons];exact hb
  ·intro x hx;rw[hml] at hx;rcases List.mem_append.1 hx with hx|hx
   ·exact h.lt x (by rw[CH];exact List.mem_append_left _ hx)
   ·rcases List.mem_cons.1 hx with rfl|hx
    ·exact h.lt e (by rw[CH];simp)
    ·exact h.lt x (by rw[CH];exact List.mem_append_right _ (List.mem_cons_of_mem _ hx))
  ·intro k' v';rw[hml];rw[List.nodup_append,List.nodup_cons] at hk;obtain⟨_,⟨nU,_⟩,nO⟩:=hk;constructor
   ·rintro(⟨rfl,rfl⟩|⟨gB,hf⟩)
    ·exact⟨_,List.mem_append_right _ (List.mem_cons_self ..),rfl,rfl⟩
    ·obtain⟨x,hx,g1,g2⟩:=(h.mem k' v').1 hf;rw[CH] at hx;rcases List.mem_append.1 hx with hx|hx
     ·exact⟨x,List.mem_append_left _ hx,g1,g2⟩
     ·rcases List.mem_cons.1 hx with rfl|hx
      ·exact absurd (g1.symm.trans h2) gB
      ·exact⟨x,List.mem_append_right _ (List.mem_cons_of_mem _ hx),g1,g2⟩
   ·rintro⟨x,hx,g1,g2⟩;rcases List.mem_append.1 hx with hx|hx
    ·refine .inr ⟨fun e'=> nO _ (List.mem_map_of_mem hx) _ (List.mem_cons_self ..) (g1.trans (e'.trans h2.symm)),(h.mem k' v').2 ⟨x,by rw[CH];exact List.mem_append_left _ hx,g1,g2⟩⟩
    ·rcases List.mem_cons.1 hx with rfl|hx
     ·exact .inl ⟨g1.symm,g2.symm⟩
     ·refine .inr ⟨fun e'=> nU ?_,(h.mem k' v').2 ⟨x,by rw[CH];exact List.mem_append_right _ (List.mem_cons_of_mem _ hx),g1,g2⟩⟩;have:=List.mem_map_of_mem (f:=(·.key)) hx;rw[g1,e',<-h2] at this;exact this
def bF(es:Array MapEntry)(seen:Array Nat):List MapEntry:=es.toList.filter fun e=> !seen.contains e.born
theorem xK(es:Array MapEntry):bF es #[]=es.toList:=by simp[bF]
theorem oT {es:Array MapEntry}{seen:Array Nat}(h:∀e∈es.toList,seen.contains e.born=true):bF es seen= []:=by
 unfold bF;rw[List.filter_eq_nil_iff];intro e he;rw[h e he];simp
theorem pT {es:Array MapEntry}{seen:Array Nat}{e:MapEntry}(hn:(es.toList.map (·.born)).Nodup)(he:e∈es.toList)(hs:seen.contains e.born=false):(bF es seen).Perm (e::bF es (seen.push e.born)):=by
 have hme:e∈bF es seen:=by
  unfold bF;rw[List.mem_filter];exact⟨he,by rw[hs];rfl⟩
 obtain⟨A,B,hAB⟩:=List.append_of_mem he;have hb:=hn;rw[hAB,List.map_append,List.map_cons,List.nodup_append,List.nodup_cons] at hb;obtain⟨_,⟨h1,_⟩,h2⟩:=hb;have other:∀x:MapEntry,x.born≠e.born->(!(seen.push e.born).contains x.born)=!seen.contains x.born:=fun x hx=> by
  rw[Array.contains_push];have:(x.born==e.born)=false:=by simpa using hx
  simp[this]
 have hA:A.filter (fun x=> !(seen.push e.born).contains x.born)=A.filter fun x=> !seen.contains x.born:=List.filter_congr fun x hx=> other x fun e'=> h2 _ (List.mem_map_of_mem hx) _ (List.mem_cons_self ..) e';have hB:B.filter (fun x=> !(seen.push e.born).contains x.born)=B.filter fun x=> !seen.contains x.born:=List.filter_congr fun x hx=> other x fun e'=> h1 (by
  have:=List.mem_map_of_mem (f:=(·.born)) hx;rw[e'] at this;exact this)
 unfold bF;rw[hAB,List.filter_append,List.filter_append,List.filter_cons_of_pos (by rw[hs];rfl),List.filter_cons_of_neg (by simp),hA,hB];exact List.perm_middle
end Go.RL
namespace Go.Proofs.YtgkmnalhddmclaaGreatDoor
open Go.RL Go.Proofs.Tryz
set_option maxRecDepth 10000
set_option maxHeartbeats 4000000
def D3(H:View)(ps:List Nat)(eb:Nat):Prop:=
 ∃f es et ez,H eb=some (f,.cells ⟨es⟩ et ez)/\∀i:Nat,i<ps.length->SB true 2 es (0+i*2)=some (ZD (ps[i]?.getD 0) i)
theorem D3.le {H H':View}{ps:List Nat}{eb:Nat}(h:D3 H ps eb)(k:H.le H'):D3 H' ps eb:=by
 obtain⟨f,es,et,ez,h1,h2⟩:=h;exact⟨f,es,et,ez,k _ _ h1,h2⟩
theorem ND:∀c:Nat,c<32->0<(bA c 7).length/\(bA c 7).length<=6/\∀i:Nat,i<(bA c 7).length->(bA c 7)[i]?.getD 0<=6:=by decide +kernel
theorem Lk.F0 {k:Lk}(h:k.ok=true):(1<=k.s0/\k.s0<=k.s1/\k.s1<=40)/\(1<=k.r0/\k.r0<=k.r1/\k.r1<=40)/\(-9<=k.l0/\k.l0<=k.l1/\k.l1<=9)/\(-12<=k.m0/\k.m0<=k.m1/\k.m1<=12):=by
 simp[Lk.ok,tD,Lk.S4,Lk.sends,Lk.reads,Lk.nS,Lk.uS,tB,eE,yE] at h
 omega
structure Lk.MH(k:Lk):Prop where
 s:0<=k.s0/\k.s1<=1000
 r:0<=k.r0/\k.r1<=1000
 l: -1000<=k.l0/\k.l1<=1000
 m: -1000<=k.m0/\k.m1<=1000
 o:k.s0<=1000000/\k.r0<=1000000/\k.l0<=1000000/\k.m0<=1000/\ -1000000<=k.s1/\ -1000000<=k.r1/\ -1000000<=k.l1/\ -1000000<=k.m1
theorem Lk.NL {k:Lk}(h:k.ok=true):k.MH:=by
 obtain⟨h1,h2,h3,h4⟩:=Lk.F0 h;exact⟨oM,oM,oM,oM,oM⟩
theorem Lk.MH.stg {k:Lk}(h:k.MH){code:Nat}(hc:code<32){x:bB}(hx:x∈k.vO code):x.Ok/\x.ps=bA code 7:=by
 obtain⟨s,r,n,f,h1,h2,h3,h4,rfl⟩:=Lk.fN.1 hx;obtain⟨g1,g2,g3,g4,g5⟩:=h;obtain⟨p1,p2,p3⟩:=ND code hc;exact⟨⟨hc,p1,p2,p3,⟨by show 0<=s;omega,by show s<=1000;omega⟩,⟨by show 0<=r;omega,by show r<=1000;omega⟩,⟨by show -1000<=n;omega,by show n<=1000;omega⟩,⟨by show -1000<=f;omega,by show f<=1000;omega⟩,⟨by show -1000<=k.m0;omega,by show k.m0<=1000;omega⟩,by show k.m1<=1000;omega⟩,rfl⟩
theorem Lk.MH.bounds {k:Lk}(h:k.MH):∀z,z∈ [k.s0,k.r0,k.l0,k.m0,k.s1,k.r1,k.l1,k.m1]-> -1000000<=z/\z<=1000000:=by
 obtain⟨g1,g2,g3,g4,g5⟩:=h;simp only[List.mem_cons,List.not_mem_nil,or_false,forall_eq_or_imp,forall_eq];omega
def Lk.LF(k:Lk)(code v:Nat):Bool:=(k.vO code).any fun s=> s.reach v
def vF(K:Nat->Bool)(k v:Value):Prop:=v=.bool true/\∃u:Nat,u<128/\k=.int .u8 (u:Nat)/\K u=true
theorem rI {K K':Nat->Bool}(h:∀u,u<128->K u=K' u)(k v:Value):vF K k v<->vF K' k v:=
 ⟨fun⟨h1,u,h2,h3,h4⟩=> ⟨h1,u,h2,h3,by rw[<-h u h2];exact h4⟩,fun⟨h1,u,h2,h3,h4⟩=> ⟨h1,u,h2,h3,by rw[h u h2];exact h4⟩⟩
theorem aBB {K:Nat->Bool}{w:Nat}(hw:w<128)(k v:Value):vF (fun u=> K u||u==w) k v<->(k=.int .u8 (w:Nat)/\v=.bool true)\/(k≠ .int .u8 (w:Nat)/\vF K k v):=by
 constructor
 ·rintro⟨h1,u,h2,h3,h4⟩;by_cases e:u=w
  ·subst e;exact .inl ⟨h3,h1⟩
  ·refine .inr ⟨?_,h1,u,h2,h3,?_⟩
   ·rw[h3];intro h;simp only[Value.int.injEq,true_and] at h;omega
   ·have:(u==w)=false:=by simpa using e
    have h5:(K u||u==w)=true:=h4;rw[this,Bool.or_false] at h5;exact h5
 ·rintro(⟨h1,h2⟩|⟨_,h1,u,h2,h3,h4⟩)
  ·exact⟨h2,w,hw,h1,by simp⟩
  ·exact⟨h1,u,h2,h3,by show(K u||u==w)=true;rw[h4];rfl⟩
theorem yK(u:Nat):uE en 1 117 (.int .u8 (u:Nat)):=⟨_,[_],rfl,rfl,_,rfl⟩
theorem NQ(f:Nat->Bool):uE en 2 167 (.agg ⟨rowOf f⟩):=by
 refine⟨_,rowOf f,rfl,rfl,?_⟩;refine⟨_,rfl,NB f,fun i hi=> ?_⟩;refine⟨f i,?_⟩;unfold chunk;show((rowOf f).drop (i*1)).take 1=_;have NO:i<(rowOf f).length:=by rw[NB];exact hi
 rw[Nat.mul_one,List.drop_eq_getElem_cons NO];have:(rowOf f)[i]=.bool (f i):=Option.some.inj ((List.getElem?_eq_getElem NO).symm.trans (VC f hi));rw[this];rfl
theorem ZQ {es:Array MapEntry}{cl:Nat}{K:Nat->Bool}(h:eC es cl (vF K)):∀e∈es.toList,uE en 1 117 e.key:=fun e he=> by
 obtain⟨_,u,_,h3,_⟩:=(h.mem e.key e.val).2 ⟨e,he,rfl,rfl⟩;rw[h3];exact yK u
def BT(F:Value->Value->Prop)(K:Nat->Bool):Prop:=∀k v,F k v->v=.bool true/\∃f:Nat->Bool,k=.agg ⟨rowOf f⟩/\∀u,u<128->f u=true->K u=true
theorem BT.keys {es:Array MapEntry}{cl:Nat}{F:Value->Value->Prop}{K:Nat->Bool}(h:eC es cl F)(g:BT F K):∀e∈es.toList,uE en 2 167 e.key:=fun e he=> by
 obtain⟨_,f,h3,_⟩:=g _ _ ((h.mem e.key e.val).2 ⟨e,he,rfl,rfl⟩);rw[h3];exact NQ f
theorem LX {f g:Nat->Bool}(h:rowOf f=rowOf g){u:Nat}(hu:u<128):f u=g u:=by
 have h1:=VC f hu;rw[h,VC g hu] at h1;simpa using h1.symm
def aDs(k:Lk)(code:Nat)(H:View)(v:Value)(H':View):Prop:=H.le H'/\∃m es cl,v=.map (some m)/\H' m=some (true,.map es cl)/\H m=none/\eC es cl (vF (k.LF code))
section
variable(M:Md prog)(H:View)
theorem DV(k:Lk)(hk:k.MH)(code eb ec:Nat)(hc:code<32)(hE:D3 H (bA code 7) eb):
  cA M 53 #[k.val,.agg ⟨[.int .i64 code,.slice (some ⟨eb,0,none⟩) (bA code 7).length ec]⟩] H (aDs k code H):=by
 refine .en func53 ntmps53 fun St c cs hK=> ?_;refine U2 ?_;refine .bo fun b2=> ?_;refine .bo fun b3=> ?_;refine U4 ?_;refine .e (Or.makeMap rfl rfl dE (fun m1=> ?_));refine .al fun b5=> ?_;refine U4 ?_;refine .e (Or.makeMap rfl rfl dE (fun m2=> ?_));refine .al fun b6=> ?_;refine U7 ?_;refine To.sF rfl rfl rfl rfl rfl rfl dE (UC.h (AN M H k code (bA code 7).length eb ec)) (fun w H1 hw=> ?_);obtain⟨FD,c2,c5,c3,rfl,pE⟩:=hw;refine U2 ?_;have eU:=hE.le FD;refine Tc.db (R':= [(15,v7 c2 c5 c3),(5,.pointer (some ⟨b5,0,none⟩)),(6,.pointer (some ⟨b6,0,none⟩)),(4,.map none)]) (L':= [(b6,true,.cells ⟨[.map (some m2)]⟩ 158 (0,0)),(m2,true,.map #[] 0),(b5,true,.cells ⟨[.map (some m1)]⟩ 115 (0,0)),(m1,true,.map #[] 0)]) ?_;have hI0:∀a b,vF (fun _=> false) a b<->False:=fun a b=> ⟨fun⟨_,_,_,_,h⟩=> (by cases h),fun h=> h.elim⟩
 refine Tc.tN (A:= []) (xs:=k.vO code) (ts:= [16]) (fun rest H₁ L₁=> ∃es1 cl1 K1 es2 cl2 F2,L₁= [(b6,true,.cells ⟨[.map (some m2)]⟩ 158 (0,0)),(m2,true,.map es2 cl2),(b5,true,.cells ⟨[.map (some m1)]⟩ 115 (0,0)),(m1,true,.map es1 cl1)]/\H1.le H₁/\
   eC es1 cl1 (vF K1)/\eC es2 cl2 F2/\BT F2 K1/\∀u,u<128->(K1 u||rest.any fun s=> s.reach u)=k.LF code u) (fun _ _ _=> False) rfl rfl rfl rfl (fun H h=> DL M H k code eb ec c2 c5 c3 hk.bounds h) (tR.le) (fun rest H₁ L₁ ⟨_,_,_,_,_,_,_,h,_⟩=> pE.le _ _ h) rfl (fun _ _=> rfl)
   ⟨#[],0,fun _=> false,#[],0,fun _ _=> False,rfl,View.le_refl _,eC.nil.congr hI0,eC.nil,fun _ _ h=> h.elim,fun u _=> by rw[Bool.false_or];rfl⟩ ?_ ?_ ?_
 ·rintro r s rest mb l tmps asg bdy H₁ _ hs ⟨es1,cl1,K1,es2,cl2,F2,rfl,jF,E2,I2,P2,zA⟩ Q1 St1 cc1 cs1 mR q1 -;obtain⟨GB,jY⟩:=hk.stg hc hs;have WR:HE H₁ s eb:=by
   have:=eU.le jF;rw[<-jY] at this;exact this
  have qX:s.val eb ec mb=.agg ⟨[.int .i64 s.code,.slice (some ⟨eb,0,none⟩) s.ps.length ec,.int .i64 s.send,.int .i64 s.read,.int .i64 s.lean,.int .i64 s.first,.int .i64 s.mf,.int .i64 s.mt,.map (some mb)]⟩:=rfl;refine U ?_;refine .al fun b7=> ?_;refine U2 ?_;refine Tc.beginRound (i:=2) rfl rfl rfl ?_;refine U4 ?_;refine To.KS 1 rfl (fun SN=> ?_);have hEm:HE (H₁.put mb (true,.map #[] 0)) s eb:=by
   obtain⟨f,es,et,ez,h1,h2⟩:=WR;exact⟨f,es,et,ez,View.ZM _ SN _ _ h1,h2⟩
  refine To.sF rfl rfl rfl rfl rfl rfl dE (UC.h (o7 M (H₁.put mb (true,.map #[] 0)) s GB eb ec mb hEm (View.qA ..))) (fun w H2 hw=> ?_);obtain⟨aCC,rfl⟩:=hw;have TM:H₁.le H2:=fun b x hb=> by
   have gB:b≠mb:=by rintro rfl;rw[SN] at hb;cases hb
   exact aCC b x gB (by rw[View.kA _ _ gB];exact hb)
  refine To.lower TM ?_;have ln1:=FJ s.reach;have on1:=UK s.reach;have st1:IE (List.replicate 128 (Value.bool false)) 0 (rowOf s.reach)=rowOf s.reach:=xN _ (by simp);have ld1:=wN s.reach;refine .al fun b8=> ?_;refine .e (Or.storeT (E:=en) 0 rfl rfl rfl rfl rfl ln1 rfl (by decide +kernel) on1 rfl st1 ?_);refine U5 ?_;refine .x (oA.load (E:=en) 0 rfl rfl rfl rfl ld1) ?_;refine .e (Or.lookup (E:=en) 2 rfl rfl rfl (fun H hs=> ⟨true,hs.get (i:=5) rfl⟩) rfl rfl rfl dE (NQ s.reach) (P2.keys I2) rfl dE (fun rr hr=> ?_));have rH:=I2.find hr;cases rr with
  | some p=>
   obtain⟨pi,pv⟩:=p;simp only at rH;obtain⟨rfl,f,hf1,hf2⟩:=P2 _ _ rH;have sQ:∀u,u<128->s.reach u=true->K1 u=true:=fun u hu h=> hf2 u hu (by
    simp only[Value.agg.injEq,Array.mk.injEq] at hf1;rw[<-LX hf1 hu];exact h)
   refine U3 ?_;refine Tc.FA mR (i:=2) rfl (.inl ⟨rfl,rfl⟩) (fun H' hs=> q1 H' _ _ (hs.less sL) ⟨es1,cl1,K1,es2,cl2,F2,rfl,jF,E2,I2,P2,fun u hu=> ?_⟩);rw[<-zA u hu,List.any_cons];cases h:s.reach u with
   | true=> rw[sQ u hu h];rfl
   | false=> rfl
  | none=>
   simp only at rH;refine U6 ?_;refine .x (oA.load (E:=en) 0 rfl rfl rfl rfl ld1) ?_;refine .e (Or.mapUpdate (E:=en) 5 2 rfl rfl rfl rfl rfl rfl rfl dE (NQ s.reach) (P2.keys I2) rfl (fun rr hr=> ?_));obtain⟨es2',cl2',tZ,aEh⟩:=I2.put (.bool true) hr;rw[tZ];refine U3 ?_;refine .x (oA.load (E:=en) 0 rfl rfl rfl rfl ld1) ?_;refine U3 ?_;refine Tc.db (Tc.vA (σ:= { x:Nat×Array MapEntry×Nat//x.1<=128/\eC x.2.1 x.2.2 (vF fun u=> K1 u||(decide (u<x.1)&&s.reach u)) })
    (fun x=> ([(25,.int .i64 (x.1.1:Nat)),(24,.agg ⟨rowOf s.reach⟩),(5,.pointer (some ⟨b5,0,none⟩)),(6,.pointer (some ⟨b6,0,none⟩)),(8,.pointer (some ⟨b8,0,none⟩))],
     [(l,true,.loop { Loop.fresh 53 tmps [16].toArray asg bdy r with state:=.busy }),(r,true,.deferred (some [])),(b6,true,.cells ⟨[.map (some m2)]⟩ 158 (0,0)),(m2,true,.map es2' cl2'),(b5,true,.cells ⟨[.map (some m1)]⟩ 115 (0,0)),(m1,true,.map x.1.2.1 x.1.2.2)])) (fun x=> 128-x.1.1) ?_ ⟨(0,es1,cl1),Nat.zero_le _,E2.congr (rI (fun u _=> by simp))⟩)
   rintro⟨⟨v,es1',cl1'⟩,v1,v2⟩ vh;simp only at v1 v2;show Tc M St1 _ _ H₁ _ [(25,.int .i64 (v:Nat)),(24,.agg ⟨rowOf s.reach⟩),(5,.pointer (some ⟨b5,0,none⟩)),(6,.pointer (some ⟨b6,0,none⟩)),(8,.pointer (some ⟨b8,0,none⟩))]
     [(l,true,.loop _),(r,true,.deferred (some [])),(b6,true,.cells ⟨[.map (some m2)]⟩ 158 (0,0)),(m2,true,.map es2' cl2'),(b5,true,.cells ⟨[.map (some m1)]⟩ 115 (0,0)),(m1,true,.map es1' cl1')] _ _
   by_cases cv:v=128
   ·subst cv;refine U8 ?_;refine Tc.FA mR (i:=0) rfl (.inl ⟨rfl,rfl⟩) (fun H' hs=> q1 H' _ _ (hs.less sL) ⟨es1',cl1',fun u=> K1 u||s.reach u,es2',cl2',_,rfl,jF,v2.congr (rI fun u hu=> by simp[hu]),aEh,?_,fun u hu=> ?_⟩)
    ·rintro k' v' (⟨rfl,rfl⟩|⟨_,hf⟩)
     ·exact⟨rfl,s.reach,rfl,fun u _ h=> by show(K1 u||s.reach u)=true;rw[h];simp⟩
     ·obtain⟨h1,f,h2,h3⟩:=P2 _ _ hf;exact⟨h1,f,h2,fun u hu h=> by show(K1 u||s.reach u)=true;rw[h3 u hu h];rfl⟩
    ·rw[<-zA u hu,List.any_cons,Bool.or_assoc]
   ·have cv2:v<128:=by omega
    have f2:SB false 1 (rowOf s.reach) ((v:Int).toNat*1)=some (.bool (s.reach v)):=by
     show(rowOf s.reach)[(v:Int).toNat*1]? =_;rw[show(v:Int).toNat*1=v by simp];exact VC _ cv2
    have f7:IntKind.u8.wrap (v:Int)=(v:Int):=by
     have:∀v:Nat,v<128->IntKind.u8.wrap (v:Int)=(v:Int):=by decide +kernel
     exact this v cv2
    cases hsr:s.reach v with
    | true=>
     rw[hsr] at f2;refine JL ?_;refine .x (oA.index (E:=en) rfl rfl rfl rfl rfl rfl oM oM f2) ?_;refine JL ?_;refine .e (Or.mapUpdate (E:=en) 5 1 rfl rfl rfl rfl rfl rfl rfl dE (yK v) (ZQ v2) rfl (fun rr hr=> ?_));obtain⟨es1'',cl1'',tZ,aEg⟩:=v2.put (.bool true) hr;rw[tZ];refine U6 ?_;have vh':=vh ⟨(v+1,es1'',cl1''),by show v+1<=_;omega,aEg.congr fun a b=> ((rI (fun u _=> ?_) a b).trans (aBB cv2 a b))⟩ (by show _-(v+1)<_-v;omega)
     ·exact Tc.db vh'
     ·by_cases e:u=v
      ·subst e;simp[hsr]
      ·have h1:decide (u<v+1)=decide (u<v):=by
        rw[decide_eq_decide];omega
       have h2:(u==v)=false:=by simpa using e
       show(K1 u||(decide (u<v+1)&&s.reach u))=((K1 u||(decide (u<v)&&s.reach u))||u==v)
       rw[h1,h2,Bool.or_false]
    | false =>
     rw[hsr] at f2;refine JL ?_;refine .x (oA.index (E:=en) rfl rfl rfl rfl rfl rfl oM oM f2) ?_;refine zH ?_;have vh':=vh ⟨(v+1,es1',cl1'),by show v+1<=_;omega,v2.congr (rI fun u _=> ?_)⟩ (by show _-(v+1)<_-v;omega)
     ·exact Tc.db vh'
     ·by_cases e:u=v
      ·subst e;simp[hsr]
      ·have h1:decide (u<v+1)=decide (u<v):=by
        rw[decide_eq_decide];omega
       show(K1 u||(decide (u<v+1)&&s.reach u))=(K1 u||(decide (u<v)&&s.reach u))
       rw[h1]
 ·rintro r H₁ L₁ ⟨es1,cl1,K1,es2,cl2,F2,rfl,jF,E2,I2,P2,zA⟩;refine U6 ?_;refine Tc.TS (E:=en) (i:=0) hK func53 results53 (vs:= [_]) rfl ⟨rfl,trivial⟩ ?_;refine fun H' hs=> ⟨View.le_trans FD (View.le_trans jF hs.base),m1,es1,cl1,rfl,hs.get (i:=4) rfl,?_,E2.congr (rI fun u hu=> ?_)⟩
  ·have:=hs.fresh (i:=4) rfl;cases h:H m1 with
   | none=> rfl
   | some y=> rw[jF _ _ (FD _ _ h)] at this;cases this
  ·rw[<-zA u hu];simp
 ·rintro _ _ _ _ h;exact h.elim
end
def yL(rt:Nat)(x:Nat×List Int):Bool:=x.1 !=rt
def bB.bD(s:bB)(rt:Nat):Option (Int×Int×Int×List Int):=(s.all.find? (yL rt)).map fun x=> (s.send,s.read,s.lean,x.2)
def Lk.bD(k:Lk)(code:Nat):Option (Int×Int×Int×List Int):=(k.vO code).findSome? fun s=> s.bD (QB code)
theorem bB.bN(s:bB):∀(d i v:Nat) (mv:List Int) (x:Nat×List Int),x∈s.leaves d i v mv->x.2.length=mv.length+d
 | 0,_,_,mv,x,h=> by
  simp only[bB.leaves,List.mem_singleton] at h;subst h;rfl
 | d+1,i,v,mv,x,h=> by
  unfold bB.leaves at h;obtain⟨o,_,h2⟩:=List.mem_flatMap.1 h;have:=bB.bN s d (i+1) _ _ x h2;rw[this];simp
  omega
theorem bB.YO(s:bB):∀(d i v:Nat) (mv:List Int) (x:Nat×List Int),v<128->x∈s.leaves d i v mv->x.1<128
 | 0,_,_,mv,x,hv,h=> by
  simp only[bB.leaves,List.mem_singleton] at h;subst h;exact hv
 | d+1,i,v,mv,x,hv,h=> by
  unfold bB.leaves at h;obtain⟨o,h1,h2⟩:=List.mem_flatMap.1 h;have:=bB.IQ h1;exact bB.YO s d (i+1) _ _ x (OI v hv _ oM) h2
theorem bB.E4 {s:bB}{x:Nat×List Int}(h:x∈s.all):x.2.length=s.ps.length:=by
 have:=bB.bN s _ _ _ _ x h;simpa using this
def pN(s r n:Int)(g:Gl 3 1):Value:=.agg ⟨[.int .i64 s,.int .i64 r,.int .i64 n,g.val]⟩
def aBM(o:Option (Int×Int×Int×List Int))(H:View)(v:Value)(H':View):Prop:=
 match o with
 | none=> v=.tuple ⟨[.agg ⟨[.int .i64 0,.int .i64 0,.int .i64 0,.slice none 0 0]⟩,.bool false]⟩
 | some (s,r,n,mv)=> ∃g:Gl 3 1,v=.tuple ⟨[pN s r n g,.bool true]⟩/\g.l=mA mv/\∀y∈g.bl,H' y.1=some y.2/\H y.1=none
section
variable(M:Md prog)(H:View)
theorem dG(k:Lk)(hk:k.MH)(code eb ec:Nat)(hc:code<32)(hE:D3 H (bA code 7) eb):
  cA M 57 #[k.val,.agg ⟨[.int .i64 code,.slice (some ⟨eb,0,none⟩) (bA code 7).length ec]⟩] H (fun v H'=> H.le H'/\aBM (k.bD code) H v H'):=by
 refine .en func57 ntmps57 fun St c cs hK=> ?_;refine U2 ?_;refine .bo fun b2=> ?_;refine .bo fun b3=> ?_;refine .al fun b4=> ?_;refine .al fun b5=> ?_;refine U4 ?_;refine .cl (fun H hs=> MQ M H code _ hc) ?_;refine .al fun b6=> ?_;refine U7 ?_;refine To.sF rfl rfl rfl rfl rfl rfl dE (UC.h (AN M H k code (bA code 7).length eb ec)) (fun w H1 hw=> ?_);obtain⟨FD,c2,c5,c3,rfl,pE⟩:=hw;refine U2 ?_;have eU:=hE.le FD;refine Tc.db (R':= [(14,v7 c2 c5 c3),(4,.pointer (some ⟨b4,0,none⟩)),(5,.pointer (some ⟨b5,0,none⟩)),(6,.pointer (some ⟨b6,0,none⟩))]) (L':= [(b6,true,.cells ⟨[.int .u8 (QB code:Nat)]⟩ 117 (0,0)),(b5,true,.cells ⟨[.bool false]⟩ 4 (0,0)),(b4,true,.cells ⟨[.int .i64 0,.int .i64 0,.int .i64 0,.slice none 0 0]⟩ 53 (0,0))]) ?_;refine Tc.tN (A:= []) (xs:=k.vO code) (ts:= [15]) (fun rest H₁ L₁=> L₁= [(b6,true,.cells ⟨[.int .u8 (QB code:Nat)]⟩ 117 (0,0)),(b5,true,.cells ⟨[.bool false]⟩ 4 (0,0)),(b4,true,.cells ⟨[.int .i64 0,.int .i64 0,.int .i64 0,.slice none 0 0]⟩ 53 (0,0))]/\H1.le H₁/\(rest.findSome? fun s=> s.bD (QB code))=k.bD code)
   (fun j H₁ L₁=> j=.ret/\H1.le H₁/\∃(s r n:Int) (mv:List Int) (g:Gl 3 1),k.bD code=some (s,r,n,mv)/\g.l=mA mv/\(∀y∈g.bl,H₁ y.1=some y.2/\H y.1=none)/\L₁= [(b6,true,.cells ⟨[.int .u8 (QB code:Nat)]⟩ 117 (0,0)),(b5,true,.cells ⟨[.bool true]⟩ 4 (0,0)),(b4,true,.cells ⟨[.int .i64 s,.int .i64 r,.int .i64 n,Gl.val g]⟩ 53 (0,0))])
   rfl rfl rfl rfl (fun H h=> DL M H k code eb ec c2 c5 c3 hk.bounds h) (tR.le) (fun rest H₁ L₁ ⟨_,h,_⟩=> pE.le _ _ h) rfl (fun _ _=> rfl) ⟨rfl,View.le_refl _,rfl⟩ ?_ ?_ ?_
 ·rintro r s rest mb l tmps asg bdy H₁ _ hs ⟨rfl,jF,M5⟩ Q1 St1 cc1 cs1 mR q1 q1';obtain⟨GB,jY⟩:=hk.stg hc hs;have WR:HE H₁ s eb:=by
   have:=eU.le jF;rw[<-jY] at this;exact this
  have aCm:∀H H':View,H.le H'->HE H s eb->HE H' s eb:=fun H H' hle he=> D3.le he hle;refine U ?_;refine .al fun b7=> ?_;refine U2 ?_;refine Tc.beginRound (i:=2) rfl rfl rfl ?_;refine U7 ?_;refine Tc.perm (List.Perm.swap _ _ _) ?_;refine Tc.uN (A:= [(mb,true,.map #[] 0)]) (i:=2) (xs:=s.all) (ts:= [18,19]) (fun rest2 H₂ L₂=> L₂= [(b7,true,.cells ⟨(s.val eb ec mb).cells.toList⟩ 165 (0,0)),(l,true,.loop { Loop.fresh 57 tmps [15].toArray asg bdy r with state:=.busy }),(r,true,.deferred (some [])),(b6,true,.cells ⟨[.int .u8 (QB code:Nat)]⟩ 117 (0,0)),(b5,true,.cells ⟨[.bool false]⟩ 4 (0,0)),(b4,true,.cells ⟨[.int .i64 0,.int .i64 0,.int .i64 0,.slice none 0 0]⟩ 53 (0,0))]/\H1.le H₂/\rest2.find? (yL (QB code))=s.all.find? (yL (QB code)))
   (fun j H₂ L₂=> j=.ret/\H1.le H₂/\∃(s' r' n:Int) (mv:List Int) (g:Gl 3 1),k.bD code=some (s',r',n,mv)/\g.l=mA mv/\(∀y∈g.bl,H₂ y.1=some y.2/\H y.1=none)/\L₂= [(b7,true,.cells ⟨(s.val eb ec mb).cells.toList⟩ 165 (0,0)),(l,true,.loop { Loop.fresh 57 tmps [15].toArray asg bdy r with state:=.busy }),(r,true,.deferred (some [])),(b6,true,.cells ⟨[.int .u8 (QB code:Nat)]⟩ 117 (0,0)),(b5,true,.cells ⟨[.bool true]⟩ 4 (0,0)),(b4,true,.cells ⟨[.int .i64 s',.int .i64 r',.int .i64 n,Gl.val g]⟩ 53 (0,0))])
   rfl rfl rfl rfl rfl (fun H h=> T1 M H s GB eb ec mb) aCm (fun rest H₁ L₁ ⟨_,h,_⟩=> ?_) rfl (fun _ _=> rfl) ⟨rfl,jF,rfl⟩ ?_ ?_ ?_
  ·have h':=eU.le h;rw[<-jY] at h';exact h'
  ·rintro x rest2 vb l2 tmps2 asg2 bdy2 H₂ _ hx ⟨rfl,TM,hfd⟩ Q2 St2 cc2 cs2 G5 q2 q2';have rX:=bB.E4 hx;have hx1:x.1<128:=bB.YO s _ _ _ _ x dE hx;have h6:=GB.ps6;refine U7 ?_;refine Tc.beginRound (i:=1) rfl rfl rfl ?_;by_cases cx:x.1=QB code
   ·have aAa:rest2.find? (yL (QB code))=s.all.find? (yL (QB code)):=by
     rw[<-hfd,List.find?_cons_of_neg (by simp[yL,cx])]
    refine zI ?_;refine Tc.FA G5 (i:=1) rfl (.inl ⟨rfl,rfl⟩) (fun H' hs'=> q2 H' _ _ hs' ⟨rfl,TM,aAa⟩)
   ·have aAa:s.all.find? (yL (QB code))=some x:=by
     rw[<-hfd,List.find?_cons_of_pos (by simp[yL,cx])]
    have hw:k.bD code=some (s.send,s.read,s.lean,x.2):=by
     rw[<-M5];have h1:s.bD (QB code)=some (s.send,s.read,s.lean,x.2):=by unfold bB.bD;rw[aAa];rfl
     rw[List.findSome?_cons,h1]
    have aEl:((mN s.ps.length x.2).drop 0).take (s.ps.length*1)=mA x.2:=by
     rw[List.drop_zero,Nat.mul_one];unfold mN;rw[List.take_left' (by rw[sA];exact rX)]
    have rO:0+s.ps.length*1<=(mN s.ps.length x.2).length:=by
     unfold mN;rw[List.length_append,sA,rX];simp
    have oR:(mA x.2).all single=true:=by
     rw[List.all_eq_true];intro y hy;obtain⟨z,_,rfl⟩:=List.mem_map.1 hy;rfl
    have nG:∀H:View,H vb=some (true,.cells ⟨mN s.ps.length x.2⟩ 3 (0,0))->NA H 1 (.slice (some ⟨vb,0,none⟩) s.ps.length 7) s.ps.length (mA x.2):=fun _ h=> aEl▸NA.of h rO;refine U9 ?_;refine Tc.dr [9,10] [6,7] mixed rfl ?_;refine V7 0 ?_;refine .ea 7 rfl (Or.uA Gl.val Gl.bl (fun g:Gl 3 1=> g.l=mA x.2) rfl rfl rfl rfl rfl dE EB (fun H hs=> .h (cA.mono (T4 M H _ s.ps.length 7 (mA x.2) oM (nG H (hs.get (i:=0) rfl)) oR) (by rintro v H' ⟨h1,g,h2,h3,h4⟩;exact⟨h1,g,h2,h3,h4⟩))) (fun g ZE=> ⟨S2.mk sL (.inr sL),?_⟩));refine .nn 8 ?_;refine .e 9 7 ?_;refine .e 10 6 ?_;refine .dn ?_;refine Tc.lift (L₂:= [_,_,_,_,_,_,_,_]) rfl (fun Hx hx=> ?_);refine Tc.FA G5 (i:=1) rfl (.inr (.inl ⟨_,rfl,rfl⟩)) (fun H' hs'=> q2' H' _ _ _ (hs'.less sL) ⟨rfl,View.le_trans TM hx.base,s.send,s.read,s.lean,x.2,g,hw,ZE,fun y hy=> ⟨hx.at_ y hy,?_⟩,rfl⟩);have h1:=hx.out y hy;cases h2:H y.1 with
    | none=> rfl
    | some z=> rw[TM _ _ (FD _ _ h2)] at h1;cases h1
  ·rintro H₂ _ ⟨rfl,TM,hnf⟩;have aEa:(rest.findSome? fun s=> s.bD (QB code))=k.bD code:=by
    rw[<-M5,List.findSome?_cons];have h1:s.bD (QB code)=none:=by unfold bB.bD;rw[<-hnf];rfl
    rw[h1]
   refine U2 ?_;refine Tc.FA mR (i:=1) rfl (.inl ⟨rfl,rfl⟩) (fun H' hs'=> q1 H' _ _ (hs'.less sL) ⟨rfl,TM,aEa⟩)
  ·rintro j H₂ _ ⟨rfl,TM,s',r',n',mv,g,hw,hg,hgb,rfl⟩;refine Tc.FA mR (i:=1) rfl (.inr (.inl ⟨_,rfl,rfl⟩)) (fun H' hs'=> q1' H' _ _ _ (hs'.less sL) ⟨rfl,TM,s',r',n',mv,g,hw,hg,hgb,rfl⟩)
 ·rintro r H₁ _ ⟨rfl,jF,M5⟩;have OE:k.bD code=none:=by rw[<-M5];rfl
  refine U7 ?_;refine Tc.TS (E:=en) (i:=0) hK func57 results57 (vs:= [_,_]) rfl (by refine⟨⟨3,_,_,_,_,_,_,_,rfl,rfl,rfl,rfl⟩,?_⟩;refine⟨⟨2,_,_,_,_,_,_,_,rfl,rfl,rfl,rfl⟩,?_⟩;exact trivial) ?_;exact fun H' hs=> ⟨View.le_trans FD (View.le_trans jF hs.base),by rw[OE];rfl⟩
 ·rintro r j H₁ _ ⟨rfl,jF,s,r',n,mv,g,hw,hg,hgb,rfl⟩;refine Tc.TS (E:=en) (i:=0) hK func57 results57 (vs:= [_,_]) rfl (by refine⟨⟨3,_,_,_,_,_,_,_,rfl,rfl,rfl,rfl⟩,?_⟩;refine⟨⟨2,_,_,_,_,_,_,_,rfl,rfl,rfl,rfl⟩,?_⟩;exact trivial) ?_;exact fun H' hs=> ⟨View.le_trans FD (View.le_trans jF hs.base),by rw[hw];exact⟨g,rfl,hg,fun y hy=> ⟨hs.base _ _ (hgb y hy).1,(hgb y hy).2⟩⟩⟩
end
def FH(code:Nat)(x:Nat×Nat×List Value):Value:=.agg ⟨[.int .i64 code,.slice (some ⟨x.1,0,none⟩) (bA code 7).length x.2.1]⟩
def oG(code:Nat)(x:Nat×Nat×List Value):Bl:= [(x.1,true,.cells ⟨wB (bA code 7)++x.2.2⟩ 108 (0,0))]
theorem qC(code:Nat)(x:Nat×Nat×List Value):((oG code x).map (·.1)).Nodup:=by simp[oG]
def HC(s:Nat)(ps:List Nat):List Value:=((ps.zipIdx s).map fun x=> [Value.int .i64 (x.1:Nat),Value.int .i64 (x.2:Nat)]).flatten
theorem UH:∀(ps:List Nat) (s i:Nat),i<ps.length->((HC s ps).drop (i*2)).take 2= [.int .i64 (ps[i]?.getD 0:Nat),.int .i64 (s+i:Nat)]
 | [],_,_,h=> by simp at h
 | p ::ps,s,i,h=> by
  have e:HC s (p::ps)= [.int .i64 (p:Nat),.int .i64 (s:Nat)]++HC (s+1) ps:=by simp[HC]
  rw[e];cases i with
  | zero=> simp
  | succ i=>
   rw[show(i+1)*2=i*2+2 by omega,List.drop_append];simp only[List.length_cons,List.length_nil];rw[show i*2+2-(0+1+1)=i*2 by omega,List.drop_eq_nil_of_le (by simp),List.nil_append,UH ps (s+1) i (by simpa using h)];simp
   omega
theorem iO(ps:List Nat):(wB ps).length=ps.length*2:=by
 have:∀(ps:List Nat) (s:Nat),(HC s ps).length=ps.length*2:=by
  intro ps;induction ps with
  | nil=> intro s;rfl
  | cons p ps ih=>
   intro s;have e:HC s (p::ps)= [.int .i64 (p:Nat),.int .i64 (s:Nat)]++HC (s+1) ps:=by simp[HC]
   rw[e,List.length_append,ih];simp
   omega
 exact this ps 0
theorem ED {H:View}{code:Nat}{x:Nat×Nat×List Value}(h:∀y∈oG code x,H y.1=some y.2):D3 H (bA code 7) x.1:=by
 refine⟨_,_,_,_,h (x.1,true,.cells ⟨wB (bA code 7)++x.2.2⟩ 108 (0,0)) (by simp[oG]),fun i hi=> ?_⟩;have hl:=iO (bA code 7);have hle:Nat.ble (0+i*2+2) (wB (bA code 7)++x.2.2).length=true:=Nat.ble_eq_true_of_le (by rw[List.length_append];omega);unfold SB;simp only[hle];have h1:=UH (bA code 7) 0 i hi
 congr 3
 rw[Nat.zero_add,List.drop_append_of_le_length oM,List.take_append_of_le_length (by rw[List.length_drop];omega)];have h2:HC 0 (bA code 7)=wB (bA code 7):=rfl;rw[<-h2,h1,Nat.zero_add]
section
variable(M:Md prog)(H:View)
theorem bM {e:TypeId}{sz:Nat}(g:Gl e sz)(h:0<g.n):∃b,g.blk=some b:=by
 cases hb:g.blk with
 | some b=> exact⟨b,rfl⟩
 | none=>
  have h1:=g.h0 hb;have h2:=g.hc;omega
theorem DF(code:Nat)(h1:code<32):cA M 48 #[.int .i64 code] H (fun v H'=> H.le H'/\∃x,v=FH code x/\True/\∀y∈oG code x,H' y.1=some y.2/\H y.1=none):=
 cA.mono (vJ M H code h1) (by
  rintro v H' ⟨h2,g,rfl,h3,h4,h5⟩;obtain⟨b,hb⟩:=bM g (by rw[h3];exact(ND code h1).1);refine⟨h2,(b,g.cap,g.CC),?_,trivial,fun y hy=> h5 y ?_⟩
  ·unfold FH Gl.val;rw[hb,h3];rfl
  ·unfold Gl.bl;rw[hb,h4];exact hy)
theorem Z0(k:Lk)(hk:k.MH)(code:Nat)(hc:code<32):cA M 51 #[k.val,.int .i64 code] H (fun v H'=> H.le H'/\v=.bool (k.bD code).isNone):=by
 refine .en func51 ntmps51 fun St c cs hK=> ?_;cases hw:k.bD code with
 | none=>
  refine U2 ?_;refine .bo fun b2=> ?_;refine U3 ?_;refine Tc.via (fun R' L'=> WB [(6,.bool false)] R') ?_ (fun fin=> ?_)
  ·intro R' L' hR;refine Tc.PC (R':= [(6,.bool false)]) (L':= []) ?_ hR (List.nil_sublist _);refine U6 ?_;refine .rt hK func51 results51 [_] ?_;exact fun H' hs=> ⟨hs.base,by rw[hw];rfl⟩
  ·refine Tc.dr [8] [] mixed rfl ?_;refine V2 0 ?_;refine Ta.each [2,7] kR rfl ⟨yG.mk rfl rfl rfl (Or.uA (FH code) (oG code) (fun _=> True) rfl rfl rfl rfl rfl dE (qC code) (fun H hs=> .h (DF M H code hc)) (fun x hx=> ⟨S2.mk sL (.inr sL),?_⟩)),yG.mk rfl rfl rfl (.al (zz:=fun nb=> ⟨S2.mk sL (.inr sL),?_⟩)),trivial⟩
   ·refine Ta.each [3,7] kR rfl ⟨yG.mk rfl rfl rfl (Or.uA (σ:=Unit) (fun _=> .tuple ⟨[.agg ⟨[.int .i64 0,.int .i64 0,.int .i64 0,.slice none 0 0]⟩,.bool false]⟩) (fun _=> []) (fun _=> True) rfl rfl rfl rfl rfl dE (fun _=> by simp) (fun H hs=> .h (cA.mono (dG M H k hk code x.1 x.2.1 hc (ED fun y hy=> hs.at_ y (by simp[hy]))) (by rintro v H' ⟨h1,h2⟩;rw[hw] at h2;exact⟨h1,(),h2,trivial,by simp⟩))) (fun _ _=> ⟨S2.mk sL (.inr sL),?_⟩)),yG.mk rfl rfl rfl (.al (zz:=fun nb=> ⟨S2.mk sL (.inr sL),?_⟩)),trivial⟩
    ·refine V2 4 ?_;refine .nw 6 ?_;refine .ea 7 rfl (.al (zz:=fun nb=> ⟨S2.mk sL (.inr sL),?_⟩));refine .e 8 0 ?_;refine .nw 9 ?_;refine .dn ?_;exact fin _ _ ⟨rfl,trivial⟩
    ·refine .ea 3 rfl (Or.uA (σ:=Unit) (fun _=> .tuple ⟨[.agg ⟨[.int .i64 0,.int .i64 0,.int .i64 0,.slice none 0 0]⟩,.bool false]⟩) (fun _=> []) (fun _=> True) rfl rfl rfl rfl rfl dE (fun _=> by simp) (fun H hs=> .h (cA.mono (dG M H k hk code x.1 x.2.1 hc (ED fun y hy=> hs.at_ y (by simp[hy]))) (by rintro v H' ⟨h1,h2⟩;rw[hw] at h2;exact⟨h1,(),h2,trivial,by simp⟩))) (fun _ _=> ⟨S2.mk sL (.inr sL),?_⟩));refine V2 4 ?_;refine .nw 6 ?_;refine .e 8 0 ?_;refine .nw 9 ?_;refine .dn ?_;exact fin _ _ ⟨rfl,trivial⟩
   ·refine .ea 2 rfl (Or.uA (FH code) (oG code) (fun _=> True) rfl rfl rfl rfl rfl dE (qC code) (fun H hs=> .h (DF M H code hc)) (fun x hx=> ⟨S2.mk sL (.inr sL),?_⟩));refine .ea 3 rfl (Or.uA (σ:=Unit) (fun _=> .tuple ⟨[.agg ⟨[.int .i64 0,.int .i64 0,.int .i64 0,.slice none 0 0]⟩,.bool false]⟩) (fun _=> []) (fun _=> True) rfl rfl rfl rfl rfl dE (fun _=> by simp) (fun H hs=> .h (cA.mono (dG M H k hk code x.1 x.2.1 hc (ED fun y hy=> hs.at_ y (by simp[hy]))) (by rintro v H' ⟨h1,h2⟩;rw[hw] at h2;exact⟨h1,(),h2,trivial,by simp⟩))) (fun _ _=> ⟨S2.mk sL (.inr sL),?_⟩));refine V2 4 ?_;refine .nw 6 ?_;refine .e 8 0 ?_;refine .nw 9 ?_;refine .dn ?_;exact fin _ _ ⟨rfl,trivial⟩
 | some w=>
  obtain⟨s,r,n,mv⟩:=w;refine U2 ?_;refine .bo fun b2=> ?_;refine U3 ?_;refine Tc.via (fun R' L'=> WB [(6,.bool true)] R') ?_ (fun fin=> ?_)
  ·intro R' L' hR;refine Tc.PC (R':= [(6,.bool true)]) (L':= []) ?_ hR (List.nil_sublist _);refine U6 ?_;refine .rt hK func51 results51 [_] ?_;exact fun H' hs=> ⟨hs.base,by rw[hw];rfl⟩
  ·refine Tc.dr [8] [] mixed rfl ?_;refine V2 0 ?_;refine Ta.each [2,7] kR rfl ⟨yG.mk rfl rfl rfl (Or.uA (FH code) (oG code) (fun _=> True) rfl rfl rfl rfl rfl dE (qC code) (fun H hs=> .h (DF M H code hc)) (fun x hx=> ⟨S2.mk sL (.inr sL),?_⟩)),yG.mk rfl rfl rfl (.al (zz:=fun nb=> ⟨S2.mk sL (.inr sL),?_⟩)),trivial⟩
   ·refine Ta.each [3,7] kR rfl ⟨yG.mk rfl rfl rfl (Or.uA (fun g:Gl 3 1=> .tuple ⟨[pN s r n g,.bool true]⟩) Gl.bl (fun _=> True) rfl rfl rfl rfl rfl dE EB (fun H hs=> .h (cA.mono (dG M H k hk code x.1 x.2.1 hc (ED fun y hy=> hs.at_ y (by simp[hy]))) (by rintro v H' ⟨h1,h2⟩;rw[hw] at h2;obtain⟨g,h3,_,h4⟩:=h2;exact⟨h1,g,h3,trivial,h4⟩))) (fun g _=> ⟨S2.mk sL (.inr sL),?_⟩)),yG.mk rfl rfl rfl (.al (zz:=fun nb=> ⟨S2.mk sL (.inr sL),?_⟩)),trivial⟩
    ·refine V2 4 ?_;refine .nw 6 ?_;refine .ea 7 rfl (.al (zz:=fun nb=> ⟨S2.mk sL (.inr sL),?_⟩));refine .e 8 0 ?_;refine .nw 9 ?_;refine .dn ?_;exact fin _ _ ⟨rfl,trivial⟩
    ·refine .ea 3 rfl (Or.uA (fun g:Gl 3 1=> .tuple ⟨[pN s r n g,.bool true]⟩) Gl.bl (fun _=> True) rfl rfl rfl rfl rfl dE EB (fun H hs=> .h (cA.mono (dG M H k hk code x.1 x.2.1 hc (ED fun y hy=> hs.at_ y (by simp[hy]))) (by rintro v H' ⟨h1,h2⟩;rw[hw] at h2;obtain⟨g,h3,_,h4⟩:=h2;exact⟨h1,g,h3,trivial,h4⟩))) (fun g _=> ⟨S2.mk sL (.inr sL),?_⟩));refine V2 4 ?_;refine .nw 6 ?_;refine .e 8 0 ?_;refine .nw 9 ?_;refine .dn ?_;exact fin _ _ ⟨rfl,trivial⟩
   ·refine .ea 2 rfl (Or.uA (FH code) (oG code) (fun _=> True) rfl rfl rfl rfl rfl dE (qC code) (fun H hs=> .h (DF M H code hc)) (fun x hx=> ⟨S2.mk sL (.inr sL),?_⟩));refine .ea 3 rfl (Or.uA (fun g:Gl 3 1=> .tuple ⟨[pN s r n g,.bool true]⟩) Gl.bl (fun _=> True) rfl rfl rfl rfl rfl dE EB (fun H hs=> .h (cA.mono (dG M H k hk code x.1 x.2.1 hc (ED fun y hy=> hs.at_ y (by simp[hy]))) (by rintro v H' ⟨h1,h2⟩;rw[hw] at h2;obtain⟨g,h3,_,h4⟩:=h2;exact⟨h1,g,h3,trivial,h4⟩))) (fun g _=> ⟨S2.mk sL (.inr sL),?_⟩));refine V2 4 ?_;refine .nw 6 ?_;refine .e 8 0 ?_;refine .nw 9 ?_;refine .dn ?_;exact fin _ _ ⟨rfl,trivial⟩
def Lk.eR(k:Lk)(code:Nat):Bool:=(k.bD code).isSome
def Lk.wV(k:Lk):Option Nat:=aC k.eR 32
theorem fY(k:Lk)(hk:k.MH)(b1:Nat)(hb:H b1=some (true,.cells ⟨k.val.cells.toList⟩ 112 (0,0))):WN M H (.func (.func 95) #[] #[.pointer (some ⟨b1,0,none⟩)]) 32 k.eR:=fun i hi H' hle=> by
 refine UC.of (first:= []) (captured:= [_]) aDQ rfl ?_;have dQ:=hle _ _ hb;refine .en func95 ntmps95 fun St c cs hK=> ?_;refine U8 ?_;refine .cl (fun H hs=> Z0 M H k hk i hi) ?_;refine U3 ?_;refine .rt hK func95 results95 [_] ?_;exact fun H2 hs=> ⟨hs.base,by unfold Lk.eR;cases k.bD i <;> rfl⟩
theorem MN(k:Lk)(hk:k.MH):cA M 60 #[k.val] H (fun v H'=> H.le H'/\v=.tuple ⟨[.int .i64 (k.wV.getD 0:Nat),.bool k.wV.isSome]⟩):=by
 refine .en func60 ntmps60 fun St c cs hK=> ?_;refine U2 ?_;refine .bo fun b1=> ?_;refine U6 ?_;refine .cl (fun H hs=> aM M H 32 _ k.eR dE (fY M H k hk b1 (hs.get (i:=0) rfl))) ?_;refine U5 ?_;refine .rt hK func60 results60 [_,_] ?_;exact okB
end
theorem qJ {p:Nat->Bool}{x:Nat}:∀ {k:Nat},aC p k=some x->x<k
 | 0,h=> by cases h
 | k + 1,h=> by
  unfold aC at h;cases h1:aC p k with
  | some y=> rw[h1] at h;cases h;have:=qJ h1;omega
  | none=>
   rw[h1] at h;cases hp:p k with
   | true=> rw[hp] at h;cases h;omega
   | false=> rw[hp] at h;cases h
def Lk.lH(k:Lk)(c:Nat):Bool:=(k.bD c).isNone
def Lk.mv(k:Lk)(n:Int):Lk:= { k with m0:= -n,m1:=n }
def Lk.at(k:Lk)(r:Int):Lk:= { k with r0:=r,r1:=r }
def Lk.mT(k:Lk)(n:Nat):Bool:=(k.mv n).wV.isSome
def Lk.QK(k:Lk):Int:=match aC k.mT 13 with
 | some n=> (n:Int)-1
 | none=> 12
def Lk.AH(k:Lk)(n:Nat):Bool:=decide (0<n)&&(k.at n).wV.isNone
theorem Lk.w5 {k:Lk}(h:k.ok=true){n:Int}(h1:0<=n)(h2:n<=1000):(k.mv n).MH:=by
 obtain⟨g1,g2,g3,g4⟩:=Lk.F0 h;exact⟨by show 0<=k.s0/\k.s1<=1000;omega,by show 0<=k.r0/\k.r1<=1000;omega,by show -1000<=k.l0/\k.l1<=1000;omega,by show -1000<= -n/\n<=1000;omega,by show k.s0<=1000000/\k.r0<=1000000/\k.l0<=1000000/\ -n<=1000/\ -1000000<=k.s1/\ -1000000<=k.r1/\ -1000000<=k.l1/\ -1000000<=n;omega⟩
theorem Lk.OV {k:Lk}(h:k.ok=true){n:Int}(h1:0<=n)(h2:n<=1000):(k.at n).MH:=by
 obtain⟨g1,g2,g3,g4⟩:=Lk.F0 h;exact⟨by show 0<=k.s0/\k.s1<=1000;omega,by show 0<=n/\n<=1000;omega,by show -1000<=k.l0/\k.l1<=1000;omega,by show -1000<=k.m0/\k.m1<=1000;omega,by show k.s0<=1000000/\n<=1000000/\k.l0<=1000000/\k.m0<=1000/\ -1000000<=k.s1/\ -1000000<=n/\ -1000000<=k.l1/\ -1000000<=k.m1;omega⟩
def AV(l:List Value)(H:View)(v:Value)(H':View):Prop:=H.le H'/\∃g:Gl 3 1,v=.tuple ⟨[g.val,.int .i64 0]⟩/\g.l=l/\∀y∈g.bl,H' y.1=some y.2/\H y.1=none
section
variable(M:Md prog)(H:View)
theorem VX(k:Lk)(hk:k.MH):WN M H (.func (.func 51) #[k.val] #[]) 32 k.lH:=fun i hi H' _=>
 UC.of (first:= [k.val]) (captured:= []) aDH rfl (Z0 M H' k hk i hi)
theorem wQ(many:Nat)(fv:Value)(p:Nat->Bool)(hm:many<=100000)(hp:WN M H fv many p):cA M 50 #[.int .i64 many,fv] H (fun v H'=> H.le H'/\∃g:Gl 3 1,v=g.val/\g.l=fB p many/\∀x∈g.bl,H' x.1=some x.2/\H x.1=none):=aAl M H many fv p hm hp
theorem s9(k:Lk)(hG:FC H)(hk:k.ok=true):cA M 17 #[k.val] H (AV (fB k.lH 32) H):=by
 refine .en func17 ntmps17 fun St c cs hK=> ?_;refine U2 ?_;refine .bo fun b1=> ?_;refine U7 ?_;refine .cl (fun H hs=> gD M H k (HA hG hs.base) hk) ?_;refine zH ?_;refine .e (Or.uA Gl.val Gl.bl (fun g:Gl 3 1=> g.l=fB k.lH 32) rfl rfl rfl rfl rfl dE EB (fun H hs=> .h (wQ M H 32 _ k.lH dE (VX M H k (Lk.NL hk)))) (fun g hg=> ?_));refine U3 ?_;refine .rt hK func17 results17 [_,_] ?_;exact fun H' hs=> ⟨hs.base,g,rfl,hg,fun y hy=> ⟨hs.at_ y (by simp[hy]),hs.out y (by simp[hy])⟩⟩
theorem uL(k:Lk)(hk:k.ok=true)(b1:Nat)(hb:H b1=some (true,.cells ⟨k.val.cells.toList⟩ 40 (0,0))):WN M H (.func (.func 59) #[] #[.pointer (some ⟨b1,0,none⟩)]) 13 k.mT:=fun i hi H' hle=> by
 refine UC.of (first:= []) (captured:= [_]) aDJ rfl ?_;have dQ:=hle _ _ hb;refine .en func59 ntmps59 fun St c cs hK=> ?_;refine U8 ?_;refine .al fun b4=> ?_;refine U5 ?_;refine .x .ng ?_;refine zI ?_;refine .cl (fun H hs=> MN M H (k.mv (i:Int)) (Lk.w5 hk oM oM)) ?_;refine eF ?_;refine .rt hK func59 results59 [_] ?_;exact fun H2 hs=> ⟨hs.base,rfl⟩
theorem rY(k:Lk)(hG:FC H)(hk:k.ok=true):cA M 21 #[k.val] H (fun v H'=> H.le H'/\v=.tuple ⟨[.int .i64 k.QK,.int .i64 0]⟩):=by
 refine .en func21 ntmps21 fun St c cs hK=> ?_;refine U2 ?_;refine .bo fun b1=> ?_;refine U7 ?_;refine .cl (fun H hs=> gD M H k (HA hG hs.base) hk) ?_;refine zI ?_;cases hf:aC k.mT 13 with
 | none=>
  have hm:k.QK=12:=by unfold Lk.QK;rw[hf]
  refine U2 ?_;refine .cl (fun H hs=> cA.is (.tuple ⟨[.int .i64 0,.bool false]⟩) (by rewrite [hf];rfl) (aM M H 13 _ k.mT dE (uL M H k hk b1 (hs.get (i:=0) rfl)))) ?_;refine pH ?_;refine .rt hK func21 results21 [_,_] ?_;exact fun H' hs=> ⟨hs.base,by rw[hm];rfl⟩
 | some n=>
  have hm:k.QK=(n:Int)-1:=by unfold Lk.QK;rw[hf]
  have hn:=qJ hf;refine U2 ?_;refine .cl (fun H hs=> cA.is (.tuple ⟨[.int .i64 (n:Nat),.bool true]⟩) (by rewrite [hf];rfl) (aM M H 13 _ k.mT dE (uL M H k hk b1 (hs.get (i:=0) rfl)))) ?_;refine wR ?_;refine .rt hK func21 results21 [_,_] ?_;exact fun H' hs=> ⟨hs.base,by rw[hm];rfl⟩
theorem SU(k:Lk)(hk:k.ok=true)(b1:Nat)(hb:H b1=some (true,.cells ⟨k.val.cells.toList⟩ 40 (0,0))):WN M H (.func (.func 61) #[] #[.pointer (some ⟨b1,0,none⟩)]) 41 k.AH:=fun i hi H' hle=> by
 refine UC.of (first:= []) (captured:= [_]) aDK rfl ?_;have dQ:=hle _ _ hb;refine .en func61 ntmps61 fun St c cs hK=> ?_;refine U8 ?_;refine .al fun b4=> ?_;refine JL ?_;cases hw:(k.at (i:Int)).wV with
 | none=>
  refine U2 ?_;refine .cl (fun H hs=> cA.is (.tuple ⟨[.int .i64 0,.bool false]⟩) (by rewrite [hw];rfl) (MN M H (k.at (i:Int)) (Lk.OV hk oM oM))) ?_;refine U7 ?_;by_cases h0:0<i
  ·have hg:k.AH i=true:=by unfold Lk.AH;rw[hw];simp[h0]
   refine U9 ?_;refine .rt hK func61 results61 [_] ?_;exact fun H2 hs=> ⟨hs.base,by rw[hg];rfl⟩
  ·have hg:k.AH i=false:=by unfold Lk.AH;simp[h0]
   refine U9 ?_;refine .rt hK func61 results61 [_] ?_;exact fun H2 hs=> ⟨hs.base,by rw[hg];rfl⟩
 | some c=>
  have hg:k.AH i=false:=by unfold Lk.AH;rw[hw];simp
  refine U2 ?_;refine .cl (fun H hs=> cA.is (.tuple ⟨[.int .i64 (c:Nat),.bool true]⟩) (by rewrite [hw];rfl) (MN M H (k.at (i:Int)) (Lk.OV hk oM oM))) ?_;refine U7 ?_;by_cases h0:0<i
  ·refine U9 ?_;refine .rt hK func61 results61 [_] ?_;exact fun H2 hs=> ⟨hs.base,by rw[hg];rfl⟩
  ·refine U9 ?_;refine .rt hK func61 results61 [_] ?_;exact fun H2 hs=> ⟨hs.base,by rw[hg];rfl⟩
theorem W3(k:Lk)(hG:FC H)(hk:k.ok=true):cA M 22 #[k.val] H (AV (fB k.AH 41) H):=by
 refine .en func22 ntmps22 fun St c cs hK=> ?_;refine U2 ?_;refine .bo fun b1=> ?_;refine U7 ?_;refine .cl (fun H hs=> gD M H k (HA hG hs.base) hk) ?_;refine JL ?_;refine .e (Or.uA Gl.val Gl.bl (fun g:Gl 3 1=> g.l=fB k.AH 41) rfl rfl rfl rfl rfl dE EB (fun H hs=> .h (wQ M H 41 _ k.AH dE (SU M H k hk b1 (hs.get (i:=0) rfl)))) (fun g hg=> ?_));refine U3 ?_;refine .rt hK func22 results22 [_,_] ?_;exact fun H' hs=> ⟨hs.base,g,rfl,hg,fun y hy=> ⟨hs.at_ y (by simp[hy]),hs.out y (by simp[hy])⟩⟩
end
end Go.Proofs.YtgkmnalhddmclaaGreatDoor
namespace Go.RL
open Go.Conc Go.ConcN Go.RL.Au
open Go.ConcR (stA smA mk)
open Go.ConcM (muA msA OsLater)
section
variable {P:Program}{X:Fk}{κ:Nat}
theorem Sat.left {H F:View}{w:World}(h:Sat (H.plus F) w):Sat H w:=fun b f o hb=> h b f o (xA hb)
theorem Qt.mono {K K':Goroutine->Prop}(hk:∀g,K g->K' g):∀ {n:Nat} {g:Goroutine},Qt P K n g->Qt P K' n g
 | 0,_,h=> hk _ h
 | _+1,_,⟨h1,g',h2,h3⟩=> ⟨h1,g',h2,Qt.mono hk h3⟩
theorem lP {H F:View}{c:Nat}{x:Bool×Obj}:(H.plus F).put c x=(H.put c x).plus (F.BA c):=by
 funext b
 by_cases e:b=c
 ·subst e;rw[View.qA,xA (View.qA ..)]
 ·rw[View.kA _ _ e];unfold View.plus;rw[View.kA _ _ e,OA e]
theorem Dj.aEC {H F:View}(h:Dj H F){c:Nat}{x:Bool×Obj}:Dj (H.put c x) (F.BA c):=fun b y hb=> by
 by_cases e:b=c
 ·subst e;simp[View.BA] at hb
 ·rw[OA e] at hb;rw[View.kA _ _ e];exact h b y hb
theorem T.less {M:Md P}{St:View->Goroutine->Prop}{H F:View}{g:Goroutine}(hc:∀H g F,Dj H F->St H g->St (H.plus F) g)(h:T M St H g)(hd:Dj H F):T M St (H.plus F) g:=
 (h.frame F hd).bind fun _ _ ⟨H',e,h1,h2⟩=> .stop (e▸hc H' _ F h1 h2)
theorem WS.less:∀(k:Nat) (t:Th) (D:Nat->Bool) (H:View) (g:Goroutine) (F:View),Dj H F->WS P X κ k t D H g->WS P X κ k t D (H.plus F) g
 | 0,_,_,_,_,_,_,_=> trivial
 | k + 1,t,D,H,g,F,hd,⟨h1,h2,h3,h4,h5,h6⟩=> by
  have hT:∀(t:Th) (D:Nat->Bool) (H F:View) (g:Goroutine),Dj H F->T (Mw P false X.ok) (WS P X κ k t D) H g->T (Mw P false X.ok) (WS P X κ k t D) (H.plus F) g:=fun t D H F g hd h=> T.less (fun H g F hd h=> WS.less k t D H g F hd h) h hd;refine⟨h1,fun e D' o hD ho w hw=> ?_,fun e=> ?_,fun e w hw=> ?_,h5,fun e w s hw hs ho hl hf=> ?_⟩
  ·obtain⟨g',h7,h8⟩:=h2 e D' o hD ho w hw.left;refine⟨g',h7,?_⟩;rw[lP];exact hT _ _ _ _ _ hd.aEC h8
  ·obtain⟨o,H',rfl,h7,h8,h9⟩:=h3 e;have hF:F X.C=none:=by
    cases hx:F X.C with
    | none=> rfl
    | some y=> have:=hd _ _ hx;rw[View.qA] at this;cases this
   have RI:Dj H' F:=fun b x hb=> by
    have:=hd b x hb;have gB:b≠X.C:=by rintro rfl;rw[hF] at hb;cases hb
    rwa [View.kA _ _ gB] at this
   refine⟨o,H'.plus F,?_,?_,h8,fun w hw=> ?_⟩
   ·rw[lP]
    congr 1
    funext b
    by_cases e:b=X.C
    ·subst e;simp[View.BA,hF]
    ·rw[OA e]
   ·rw[KA h7,hF]
   ·obtain⟨g',A8,h11⟩:=h9 w hw.left;exact⟨g',A8,hT _ _ _ _ _ RI h11⟩
  ·obtain⟨g',h7,n,h8⟩:=h4 e w hw.left;exact⟨g',h7,n,h8.mono fun g hg=> WS.less k _ _ _ _ _ hd hg⟩
  ·rcases h6 e w s hw.left hs ho hl hf with h7|⟨t',s',g',w',es,a1,a2,a3,a4,a5,a6,a7,a8,a9⟩
   ·exact .inl h7
   ·refine .inr ⟨t',s',g',w',es,a1,a2,a3,a4,a5,a6,a7,fun b1 b2=> ?_,fun b=> hT _ _ _ _ _ hd (a9 b)⟩;obtain⟨n,hn⟩:=a8 b1 b2;exact⟨n,hn.mono fun g hg=> WS.less k _ _ _ _ _ hd hg⟩
theorem Jw.less {k:Nat}{t:Th}{D:Nat->Bool}{H F:View}{g:Goroutine}(h:Jw P X κ k t D H g)(hd:Dj H F):Jw P X κ k t D (H.plus F) g:=
 ⟨h.1,fun e hm=> let ⟨n,hn⟩:=h.2.1 e hm;⟨n,hn.mono fun _ hg=> WS.less k _ _ _ _ _ hd hg⟩,fun hm=> T.less (fun H g F hd h=> WS.less k t D H g F hd h) (h.2.2 hm) hd⟩
theorem fR {H:View}{b:Nat}:∃F,Dj (H.BA b) F/\(H.BA b).plus F=H:=by
 refine⟨fun c=> if c=b then H c else none,fun c x hc=> ?_,?_⟩
 ·by_cases e:c=b
  ·subst e;simp[View.BA]
  ·simp[e] at hc
 ·funext c
  by_cases e:c=b
  ·subst e;simp[View.plus,View.BA]
  ·simp[View.plus,View.BA,e]
   cases H c <;> rfl
theorem Jw.forget {k:Nat}{t:Th}{D:Nat->Bool}{H:View}(b:Nat){g:Goroutine}(h:Jw P X κ k t D (H.BA b) g):Jw P X κ k t D H g:=by
 obtain⟨F,h1,h2⟩:=fR (H:=H) (b:=b);have:=h.less h1
 rwa [h2] at this
theorem oC.makeFunc {n:Nat}{sh:Z3}{R:Rg}{o:Oper}{f:Fn}{first caps:Array Operand}{vs ws:List Value}(iA:o.op=.makeFunc f first caps)(h1:aE R first.toList=some vs)(h2:aE R caps.toList=some ws):oC P sh n R o (.func f vs.toArray ws.toArray):=fun tmps hr=> by
 unfold execOp;rw[iA];show Next.value _=_;have e1:first.map (uB tmps)=vs.toArray:=by
  rw[<-hr.evs h1,List.map_toArray.symm]
 have e2:caps.map (uB tmps)=ws.toArray:=by
  rw[<-hr.evs h2,List.map_toArray.symm]
 rw[e1,e2]
theorem T.none {M:Md P}{St:View->Goroutine->Prop}{C:Nat}{H:View}{g:Goroutine}(GB:∀w,M.ok w->C<w.heap.size)(hph:∀H g Po,¬M.Ph H g Po)(h:T M St H g):H C=Option.none->T M (fun H' g'=> H' C=Option.none/\St H' g') H g:=
 h (fun H g=> H C=Option.none->T M (fun H' g'=> H' C=Option.none/\St H' g') H g) (fun _ _ hs hc=> .stop ⟨hc,hs⟩) (fun H g hs hc=> .step ⟨hs.1,fun w hw ho=> by
  obtain⟨g',w',es,H',h1,h2,h3⟩:=hs.2 w hw ho;refine⟨g',w',es,H',h1,h2,h3 ?_⟩;cases hx:H' C with
  | none=> rfl
  | some x=>
   obtain⟨f,o⟩:=x;rcases h2.ext _ _ _ hx with ⟨o',oO⟩|⟨_,hle⟩
   ·rw[hc] at oO;cases oO
   ·have:=GB w ho;omega⟩) (fun _ _ _ hp=> (hph _ _ _ hp).elim)
theorem T.aCQ {main:Bool}{St:View->Goroutine->Prop}{H:View}{g:Goroutine}(hc:H X.C=Option.none)(h:T (Mw P main X.ok) (fun H' g'=> H' X.C=Option.none->T (Mw P main X.ok) St H' g') H g):T (Mw P main X.ok) St H g:=
 (T.none (M:=Mw P main X.ok) (C:=X.C) (fun _ (h:X.ok _)=> h.1) (fun _ _ _ h=> h) h hc).bind fun _ _ ⟨h1,h2⟩=> h2 h1
theorem Sc.none {main:Bool}{St:View->Goroutine->Prop}{H:View}{n:Nat}{b:FB}{cs:List Frame}{R:Rg}{ds:List Deferred}{kk:List Item}(hc:H X.C=Option.none)
 (h:Sc (T (Mw P main X.ok) (fun H' g'=> H' X.C=Option.none->T (Mw P main X.ok) St H' g') H) n b cs R ds kk):Sc (T (Mw P main X.ok) St H) n b cs R ds kk:=fun tmps hr=> T.aCQ hc (h tmps hr)
theorem Sc.Y0 {main:Bool}{St:View->Goroutine->Prop}{H:View}{n:Nat}{b:FB}{cs:List Frame}{R:Rg}{ds:List Deferred}{kk:List Item}
 (h:H X.C=Option.none->Sc (T (Mw P main X.ok) St H) n b cs R ds kk):Sc (T (Mw P main X.ok) (fun H' g'=> H' X.C=Option.none->T (Mw P main X.ok) St H' g') H) n b cs R ds kk:=fun tmps hr=> .stop fun hc=> h hc tmps hr
theorem Sc.mono {J J':Goroutine->Prop}{n:Nat}{b:FB}{cs:List Frame}{R:Rg}{ds:List Deferred}{kk:List Item}(h:Sc J n b cs R ds kk)(hj:∀g,J g->J' g):Sc J' n b cs R ds kk:=fun tmps hr=> hj _ (h tmps hr)
end
end Go.RL
namespace Go.Proofs.YtgkmnalhddmclaaGreatDoor
open Go.RL Go.Proofs.Tryz
set_option maxRecDepth 10000
set_option maxHeartbeats 4000000
structure Ch where
 s0:Int
 s1:Int
 a0:Int
 a1:Int
 r0:Int
 r1:Int
 n:Nat
 x:Nat->Int
 y:Nat->Int
 z:Nat->Int
 u:Nat->Int
 m:Nat
 at_:Nat->Nat
def Ch.val(c:Ch)(lb lo lc ac:Nat)(A:Option Addr):Value:=
 .agg ⟨[.int .i64 c.s0,.int .i64 c.s1,.slice (some ⟨lb,lo,none⟩) c.n lc,.int .i64 c.a0,.int .i64 c.a1,.int .i64 c.r0,.int .i64 c.r1,.slice A c.m ac]⟩
structure Ch.Ok(c:Ch):Prop where
 n0:0<c.n
 n4:c.n<=4
 x:∀i,i<c.n-> -1000000<=c.x i/\c.x i<=1000000
 y:∀i,i<c.n-> -1000000<=c.y i/\c.y i<=1000000
 z:∀i,i<c.n-> -1000000<=c.z i/\c.z i<=1000000
 u:∀i,i<c.n-> -1000000<=c.u i/\c.u i<=1000000
 lt:∀i,i<c.m->c.at_ i+1<c.n
 mono:∀i,i+1<c.m->c.at_ i<c.at_ (i+1)
structure SG(H:View)(c:Ch)(lb lo lc:Nat)(A:Option Addr):Prop where
 ln:∃f gs gt gz,H lb=some (f,.cells ⟨gs⟩ gt gz)/\∀i:Nat,i<c.n->SB true 4 gs (lo+i*4)=some (fF (c.x i) (c.y i) (c.z i) (c.u i))
 lc:c.n<=lc
 at_:0<c.m->∃ab ao f gs gt gz,A=some ⟨ab,ao,none⟩/\H ab=some (f,.cells ⟨gs⟩ gt gz)/\∀i:Nat,i<c.m->SB false 1 gs (ao+i*1)=some (.int .i64 (c.at_ i:Nat))
theorem SG.le {H H':View}{c:Ch}{lb lo lc:Nat}{A:Option Addr}(h:SG H c lb lo lc A)(k:H.le H'):SG H' c lb lo lc A:=by
 obtain⟨⟨f,gs,gt,gz,h1,h2⟩,h3,h4⟩:=h;refine⟨⟨f,gs,gt,gz,k _ _ h1,h2⟩,h3,fun hm=> ?_⟩;obtain⟨ab,ao,f,gs,gt,gz,h5,h6,h7⟩:=h4 hm;exact⟨ab,ao,f,gs,gt,gz,h5,k _ _ h6,h7⟩
def Ch.fr(c:Ch)(i:Nat):Nat:=if i=0 then 0 else c.at_ (i-1)+1
def Ch.to(c:Ch)(i:Nat):Nat:=if i<c.m then c.at_ i+1 else c.n
def Ch.lk(c:Ch)(i:Nat):Lk:=
 ⟨if i=0 then c.s0 else c.a0,if i=0 then c.s1 else c.a1,if i<c.m then c.a0 else c.r0,if i<c.m then c.a1 else c.r1,
  rG (fun j=> c.x (c.fr i+j)) (c.to i-c.fr i),rG (fun j=> c.y (c.fr i+j)) (c.to i-c.fr i),rG (fun j=> c.z (c.fr i+j)) (c.to i-c.fr i),rG (fun j=> c.u (c.fr i+j)) (c.to i-c.fr i)⟩
def Ch.fits(c:Ch)(i:Nat):Bool:=(⟨0,0,0,0,(c.lk i).l0,(c.lk i).l1,(c.lk i).m0,(c.lk i).m1⟩:Lk).bI
theorem Ch.Ok.SZ {c:Ch}(h:c.Ok):∀j i:Nat,i<j->j<c.m->c.at_ i<c.at_ j
 | 0,i,h1,_=> by omega
 | j+1,i,h1,h2=> by
  have h3:=h.mono j h2;by_cases e:i=j
  ·subst e;exact h3
  ·have:=h.SZ j i oM oM;omega
theorem Ch.Ok.up {c:Ch}(h:c.Ok):∀j:Nat,j<c.m->j<=c.at_ j
 | 0,_=> by omega
 | j+1,h2=> by
  have h3:=h.mono j h2;have:=h.up j oM;omega
theorem Ch.Ok.D6 {c:Ch}(h:c.Ok):c.m<c.n:=by
 have h0:=h.n0;by_cases e:c.m=0
 ·omega
 ·have h1:=h.up (c.m-1) oM;have h2:=h.lt (c.m-1) oM;omega
theorem Ch.Ok.ends {c:Ch}(h:c.Ok){i:Nat}(hi:i<=c.m):c.fr i<c.to i/\c.to i<=c.n:=by
 unfold Ch.fr Ch.to;have h0:=h.n0;by_cases e:i=0
 ·rw[if_pos e];split
  ·have:=h.lt i oM;omega
  ·omega
 ·rw[if_neg e];have h1:=h.lt (i-1) oM;split
  ·have h2:=h.lt i oM;have:=h.SZ i (i-1) oM oM;omega
  ·omega
section
variable {M:Md prog}{St:View->Goroutine->Prop}{n:Nat}{b:FB}{H₀:View}{cs:List Frame}{R:Rg}{L:Bl}{ds:List Deferred}{k:List Item}
theorem Tc.aBC {x y:Item}(F:Rg->Bl->Prop)(hF:∀R L,F R L->Tc M St n b H₀ cs R L ds k)(h:(∀R L,F R L->Tc M St n b H₀ cs R L ds k)->Tc M St n b H₀ cs R L ds (x::y::k)):Tc M St n b H₀ cs R L ds (x::y::k):=h hF
end
section
variable(M:Md prog)(H:View)
theorem qP(ch:Ch)(i lb lo lc ac:Nat)(A:Option Addr)(hc:ch.Ok)(hA:SG H ch lb lo lc A)(hi:i<=ch.m)(hG:FC H):
  cA M 104 #[ch.val lb lo lc ac A,.int .i64 i] H (fun v H'=> H.le H'/\v=.tuple ⟨[(ch.lk i).val,.bool (ch.fits i)]⟩):=by
 refine .en func104 ntmps104 fun St c cs hK=> ?_;have aCp:=hc.ends hi;have hm3:ch.at_ i+1<ch.n\/ch.m<=i:=by
  by_cases e:i<ch.m
  ·exact .inl (hc.lt i e)
  ·exact .inr oM
 have N8:=hc.n4;have hmn:=hc.D6;refine U2 ?_;refine .bo fun b2=> ?_;refine .al fun b4=> ?_;refine JL ?_;refine .al fun b6=> ?_;refine U3 ?_;refine Tc.dr [] [] mixed rfl ?_;refine V6 0 ?_;refine .dn ?_;refine U2 ?_;refine Tc.aBC (fun R' L'=> WB [(1,.int .i64 (i:Nat)),(2,.pointer (some ⟨b2,0,none⟩)),(4,.pointer (some ⟨b4,0,none⟩)),(6,.pointer (some ⟨b6,0,none⟩)),(7,.int .i64 (ch.fr i:Nat)),(8,.int .i64 (ch.n:Nat))] R'/\
  L'= [(b6,true,.cells ⟨[.int .i64 (ch.lk i).s0,.int .i64 (ch.lk i).s1,.int .i64 ch.r0,.int .i64 ch.r1,.int .i64 0,.int .i64 0,.int .i64 0,.int .i64 0]⟩ 112 (0,0)),(b4,true,.cells ⟨[.int .i64 0,.int .i64 0,.int .i64 0,.int .i64 0,.int .i64 0,.int .i64 0,.int .i64 0,.int .i64 0]⟩ 112 (0,0)),(b2,true,.cells ⟨(ch.val lb lo lc ac A).cells.toList⟩ 133 (0,0))]) ?_ (fun fin=> ?_)
 ·rintro R' L' ⟨hR,rfl⟩;refine Tc.PC ?_ hR (List.Sublist.refl _);refine U2 ?_;refine Tc.aBC (fun R' L'=> WB [(2,.pointer (some ⟨b2,0,none⟩)),(4,.pointer (some ⟨b4,0,none⟩)),(6,.pointer (some ⟨b6,0,none⟩)),(7,.int .i64 (ch.fr i:Nat)),(8,.int .i64 (ch.to i:Nat))] R'/\
   L'= [(b6,true,.cells ⟨[.int .i64 (ch.lk i).s0,.int .i64 (ch.lk i).s1,.int .i64 (ch.lk i).r0,.int .i64 (ch.lk i).r1,.int .i64 0,.int .i64 0,.int .i64 0,.int .i64 0]⟩ 112 (0,0)),(b4,true,.cells ⟨[.int .i64 0,.int .i64 0,.int .i64 0,.int .i64 0,.int .i64 0,.int .i64 0,.int .i64 0,.int .i64 0]⟩ 112 (0,0)),(b2,true,.cells ⟨(ch.val lb lo lc ac A).cells.toList⟩ 133 (0,0))]) ?_ (fun fin=> ?_)
  ·rintro R' L' ⟨hR,rfl⟩;refine Tc.PC ?_ hR (List.Sublist.refl _);obtain⟨f,gs,gt,gz,hA1,F5⟩:=hA.ln;have hlc:=hA.lc;have hj:∀j:Nat,j<ch.to i-ch.fr i->SB true 4 gs ((lo+ch.fr i*4)+j*4)=some (fF (ch.x (ch.fr i+j)) (ch.y (ch.fr i+j)) (ch.z (ch.fr i+j)) (ch.u (ch.fr i+j))):=fun j hj=> by
    rw[show lo+ch.fr i*4+j*4=lo+(ch.fr i+j)*4 by omega];exact F5 _ oM
   refine U7 ?_;refine .x (oA.slice (E:=en) (l:=(ch.fr i:Nat)) (h:=(ch.to i:Nat)) (off':=lo+ch.fr i*4) rfl rfl rfl rfl rfl rfl rfl rfl oM oM oM (by rw[if_neg oM];rfl)) ?_;refine .cl (fun H hs=> aAk M H lb (lo+ch.fr i*4) (ch.to i-ch.fr i) (lc-ch.fr i) f gs gt gz (fun j=> ch.x (ch.fr i+j)) (fun j=> ch.y (ch.fr i+j)) (fun j=> ch.z (ch.fr i+j)) (fun j=> ch.u (ch.fr i+j)) oM (hs.base _ _ hA1) hj (fun j hj=> hc.x _ oM) (fun j hj=> hc.y _ oM) (fun j hj=> hc.z _ oM) (fun j hj=> hc.u _ oM)) ?_;refine U5 ?_;cases hf:ch.fits i with
   | true=>
    refine Tc.dr [6] [1] mixed rfl ?_;refine .nn 0 ?_;refine .nw 1 ?_;refine .nw 2 ?_;refine .nw 3 ?_;refine .z 4 rfl (oA.tk fun H hs=> cA.mono (RF M H (ch.lk i).l0 (ch.lk i).l1 (ch.lk i).m0 (ch.lk i).m1 (HA hG hs.base)) (Q':=fun v H'=> H.le H'/\v=.int .i64 0) (by rintro v H' ⟨h1,h2⟩;unfold Ch.fits at hf;rw[hf] at h2;exact⟨h1,h2⟩)) ?_;refine .nw 5 ?_;refine .e 6 1 ?_;refine .nw 7 ?_;refine .dn ?_;refine .rt hK func104 results104 [_,_] ?_;exact fun H' hs=> ⟨hs.base,by rw[hf];rfl⟩
   | false=>
    refine Tc.dr [6] [1] mixed rfl ?_;refine .nn 0 ?_;refine .nw 1 ?_;refine .nw 2 ?_;refine .nw 3 ?_;refine .z 4 rfl (oA.tk fun H hs=> cA.mono (RF M H (ch.lk i).l0 (ch.lk i).l1 (ch.lk i).m0 (ch.lk i).m1 (HA hG hs.base)) (Q':=fun v H'=> H.le H'/\v=.int .i64 1) (by rintro v H' ⟨h1,h2⟩;unfold Ch.fits at hf;rw[hf] at h2;exact⟨h1,h2⟩)) ?_;refine .nw 5 ?_;refine .e 6 1 ?_;refine .nw 7 ?_;refine .dn ?_;refine .rt hK func104 results104 [_,_] ?_;exact fun H' hs=> ⟨hs.base,by rw[hf];rfl⟩
  ·by_cases h0:i<ch.m
   ·have e1:ch.to i=ch.at_ i+1:=if_pos h0;have e2:(ch.lk i).r0=ch.a0:=if_pos h0;have e3:(ch.lk i).r1=ch.a1:=if_pos h0;obtain⟨ab,ao,f,gs,gt,gz,rfl,hA3,hA4⟩:=hA.at_ oM;have hld:SB false 1 gs (ao+((i:Nat):Int).toNat*1)=some (.int .i64 (ch.at_ i:Nat)):=hA4 i h0;have mB:=hc.lt i h0;refine U8 ?_;refine Tc.dr [11] [0] mixed rfl ?_;refine V3 0 ?_;refine .nw 3 ?_;refine .nw 4 ?_;refine .nw 5 ?_;refine .nw 6 ?_;refine .nw 7 ?_;refine .nw 8 ?_;refine .nw 9 ?_;refine .nn 10 ?_;refine .e 11 0 ?_;refine .nw 12 ?_;refine .dn ?_;refine fin _ _ ⟨?_,?_⟩
    ·rw[e1];refine⟨rfl,?_⟩;refine⟨rfl,?_⟩;refine⟨rfl,?_⟩;refine⟨rfl,?_⟩;refine⟨rfl,?_⟩;exact trivial
    ·rw[e2,e3];rfl
   ·have e1:ch.to i=ch.n:=if_neg h0;have e2:(ch.lk i).r0=ch.r0:=if_neg h0;have e3:(ch.lk i).r1=ch.r1:=if_neg h0;refine U9 ?_;refine fin _ _ ⟨?_,?_⟩
    ·rw[e1];refine⟨rfl,?_⟩;refine⟨rfl,?_⟩;refine⟨rfl,?_⟩;refine⟨rfl,?_⟩;refine⟨rfl,?_⟩;exact trivial
    ·rw[e2,e3]
 ·by_cases h0:i=0
  ·subst h0;refine U6 ?_;exact fin _ _ ⟨⟨rfl,rfl,rfl,rfl,rfl,rfl,trivial⟩,rfl⟩
  ·have e1:ch.fr i=ch.at_ (i-1)+1:=if_neg h0;have e2:(ch.lk i).s0=ch.a0:=if_neg h0;have e3:(ch.lk i).s1=ch.a1:=if_neg h0;obtain⟨ab,ao,f,gs,gt,gz,rfl,hA3,hA4⟩:=hA.at_ oM;have hld:SB false 1 gs (ao+(((i:Nat):Int)-1).toNat*1)=some (.int .i64 (ch.at_ (i-1):Nat)):=by
    rw[show(((i:Nat):Int)-1).toNat=i-1 by omega];exact hA4 (i-1) oM
   have mB:=hc.lt (i-1) oM;refine U5 ?_;refine Tc.dr [12] [0] mixed rfl ?_;refine V3 0 ?_;refine .nw 3 ?_;refine .nw 4 ?_;refine .nw 5 ?_;refine .nw 6 ?_;refine .nw 7 ?_;refine .nw 8 ?_;refine .nw 9 ?_;refine .nw 10 ?_;refine .nn 11 ?_;refine .e 12 0 ?_;refine .nw 13 ?_;refine .dn ?_;refine fin _ _ ⟨?_,?_⟩
   ·rw[e1];refine⟨rfl,?_⟩;refine⟨rfl,?_⟩;refine⟨rfl,?_⟩;refine⟨rfl,?_⟩;refine⟨rfl,?_⟩;refine⟨rfl,?_⟩;exact trivial
   ·rw[e2,e3];rfl
end
def Lk.seen(k:Lk)(c:Nat):Nat:=((List.range 128).filter (k.LF c)).length
def Lk.bK(k:Lk)(c:Nat):Int:=if k.LF c (QB c) then(if k.seen c=1 then 1 else 0) else 2
theorem bV:∀c:Nat,c<32->QB c<128:=by decide +kernel
theorem iN {α:Type} [DecidableEq α]:∀ {l m:List α},l.Nodup->(∀x∈l,x∈m)->l.length<=m.length
 | [],_,_,_=> by simp
 | x::l,m,h1,h2=> by
  obtain⟨h3,h4⟩:=List.nodup_cons.1 h1;have hx:=h2 x List.mem_cons_self;have h5:=iN (m:=m.erase x) h4 fun y hy=> (List.mem_erase_of_ne (by rintro rfl;exact h3 hy)).2 (h2 y (List.mem_cons_of_mem _ hy));have h6:=List.length_erase_of_mem hx;have h7:=List.length_pos_of_mem hx;simp only[List.length_cons];omega
theorem PX {K:Nat->Bool}{es:Array MapEntry}{cl:Nat}(h:eC es cl (vF K)):es.size=((List.range 128).filter K).length:=by
 classical
 have e1:es.size=(es.toList.map (·.key)).length:=by simp
 have e2:((List.range 128).filter K).length=(((List.range 128).filter K).map fun u=> Value.int .u8 (u:Nat)).length:=by simp
 rw[e1,e2];refine Nat.le_antisymm (iN h.keys fun x hx=> ?_) (iN ?_ fun x hx=> ?_)
 ·obtain⟨e,he,rfl⟩:=List.mem_map.1 hx;obtain⟨_,u,h1,h2,h3⟩:=(h.mem e.key e.val).2 ⟨e,he,rfl,rfl⟩;exact List.mem_map.2 ⟨u,List.mem_filter.2 ⟨List.mem_range.2 h1,h3⟩,h2.symm⟩
 ·rw[List.nodup_iff_pairwise_ne,List.pairwise_map];refine List.Pairwise.imp ?_ (List.Pairwise.filter K (List.nodup_iff_pairwise_ne.1 List.nodup_range));intro a b hY e;simp only[Value.int.injEq,true_and,Int.natCast_inj] at e;exact hY e
 ·obtain⟨u,hu,rfl⟩:=List.mem_map.1 hx;obtain⟨h1,h2⟩:=List.mem_filter.1 hu;obtain⟨e,he,h3,_⟩:=(h.mem (.int .u8 (u:Nat)) (.bool true)).1 ⟨rfl,u,List.mem_range.1 h1,rfl,h2⟩;exact List.mem_map.2 ⟨e,he,h3⟩
def aBN(o:Option (Int×Int×Int×List Int))(H:View)(v:Value)(H':View):Prop:=H.le H'/\
 match o with
 | none=> v=.tuple ⟨[.agg ⟨[.int .i64 0,.int .i64 0,.int .i64 0,.slice none 0 0]⟩,.bool false,.int .i64 0]⟩
 | some (s,r,n,mv)=> ∃g:Gl 3 1,v=.tuple ⟨[pN s r n g,.bool true,.int .i64 0]⟩/\g.l=mA mv/\∀y∈g.bl,H' y.1=some y.2/\H y.1=none
section
variable(M:Md prog)(H:View)
theorem RU(k:Lk)(code:Nat)(hG:FC H)(hk:k.ok=true)(hc:code<32):cA M 52 #[k.val,.int .i64 code] H (fun v H'=> H.le H'/\∃x:Nat×Nat×List Value,v=.tuple ⟨[k.val,FH code x,.int .i64 0]⟩/\True/\∀y∈oG code x,H' y.1=some y.2/\H y.1=none):=
 cA.mono (zS M H k code hG hk hc) (by
  rintro v H' ⟨h2,g,rfl,⟨h3,h4⟩,h5⟩;obtain⟨b,hb⟩:=bM g (by rw[h3];exact(ND code hc).1);refine⟨h2,(b,g.cap,g.CC),?_,trivial,fun y hy=> h5 y ?_⟩
  ·unfold jM FH Gl.val;rw[hb,h3];rfl
  ·unfold Gl.bl;rw[hb,h4];exact hy)
theorem D4(k:Lk)(code:Nat)(hG:FC H)(hk:k.ok=true)(hc:code<32):cA M 20 #[k.val,.int .i64 code] H (aBN (k.bD code) H):=by
 refine .en func20 ntmps20 fun St c cs hK=> ?_;refine U2 ?_;refine .bo fun b2=> ?_;refine .al fun b4=> ?_;refine U7 ?_;refine .e (Or.uA (fun x=> .tuple ⟨[k.val,FH code x,.int .i64 0]⟩) (oG code) (fun _=> True) rfl rfl rfl rfl rfl dE (qC code) (fun H hs=> .h (RU M H k code (HA hG hs.base) hk hc)) (fun x hx=> ?_));refine U4 ?_;refine .al fun b7=> ?_;refine .al fun b8=> ?_;refine aJ ?_;cases hw:k.bD code with
 | none=>
  refine U3 ?_;refine .cl (fun H hs=> cA.mono (dG M H k (Lk.NL hk) code x.1 x.2.1 hc (ED fun y hy=> hs.at_ y (by simp[hy]))) (Q':=fun v H'=> H.le H'/\v=.tuple ⟨[.agg ⟨[.int .i64 0,.int .i64 0,.int .i64 0,.slice none 0 0]⟩,.bool false]⟩) (by rintro v H' ⟨h1,h2⟩;rw[hw] at h2;exact⟨h1,h2⟩)) ?_;refine zH ?_;refine .rt hK func20 results20 [_,_,_] ?_;exact fun H' hs=> ⟨hs.base,by rw[hw];rfl⟩
 | some w=>
  obtain⟨s,r,n,mv⟩:=w;refine U3 ?_;refine .e (Or.uA (fun g:Gl 3 1=> .tuple ⟨[pN s r n g,.bool true]⟩) Gl.bl (fun g=> g.l=mA mv) rfl rfl rfl rfl rfl dE EB (fun H hs=> .h (cA.mono (dG M H k (Lk.NL hk) code x.1 x.2.1 hc (ED fun y hy=> hs.at_ y (by simp[hy]))) (by rintro v H' ⟨h1,h2⟩;rw[hw] at h2;obtain⟨g,h3,h4,h5⟩:=h2;exact⟨h1,g,h3,h4,h5⟩))) (fun g hg=> ?_));refine zH ?_;refine .rt hK func20 results20 [_,_,_] ?_;exact fun H' hs=> ⟨hs.base,by rw[hw];exact⟨g,rfl,hg,fun y hy=> ⟨hs.at_ y (by simp[hy]),hs.out y (by simp[hy])⟩⟩⟩
theorem X3(k:Lk)(code:Nat)(hG:FC H)(hk:k.ok=true)(hc:code<32):cA M 18 #[k.val,.int .i64 code] H (fun v H'=> H.le H'/\v=.tuple ⟨[.int .i64 (k.bK code),.int .i64 0]⟩):=by
 refine .en func18 ntmps18 fun St c cs hK=> ?_;refine U2 ?_;refine .bo fun b2=> ?_;refine U7 ?_;refine .e (Or.uA (fun x=> .tuple ⟨[k.val,FH code x,.int .i64 0]⟩) (oG code) (fun _=> True) rfl rfl rfl rfl rfl dE (qC code) (fun H hs=> .h (RU M H k code (HA hG hs.base) hk hc)) (fun x hx=> ?_));refine U4 ?_;refine .al fun b6=> ?_;refine .al fun b7=> ?_;refine xT ?_;refine .e (Or.uA (fun y:Nat×Array MapEntry×Nat=> .map (some y.1)) (fun y=> [(y.1,true,.map y.2.1 y.2.2)]) (fun y=> eC y.2.1 y.2.2 (vF (k.LF code))) rfl rfl rfl rfl rfl dE (fun _=> by simp) (fun H hs=> .h (cA.mono (DV M H k (Lk.NL hk) code x.1 x.2.1 hc (ED fun y hy=> hs.at_ y (by simp[hy]))) (by rintro v H' ⟨h1,m,es,cl,h2,h3,h4,h5⟩;exact⟨h1,(m,es,cl),h2,h5,by simp[h3,h4]⟩))) (fun y hm=> ?_));refine U2 ?_;obtain⟨m,es,cl⟩:=y;have hrt:=bV code hc;have rH:∀r,fG es.toList (.int .u8 (QB code:Nat)) r->cU (.bool false) r false=.bool (k.LF code (QB code)):=by
  intro r hr;have hf:=eC.find hm hr;cases r with
  | none=>
   simp only at hf;cases Z5:k.LF code (QB code) with
   | false=> rfl
   | true=> exact(hf (.bool true) ⟨rfl,QB code,hrt,rfl,Z5⟩).elim
  | some p=>
   obtain⟨j,v⟩:=p;obtain⟨rfl,u,h1,h2,h3⟩:=hf;simp only[Value.int.injEq,true_and,Int.natCast_inj] at h2;subst h2;rw[h3];rfl
 have QD:=PX hm;refine U2 ?_;cases Z5:k.LF code (QB code) with
 | false=>
  rw[Z5] at rH;have PB:k.bK code=2:=by unfold Lk.bK;rw[Z5];rfl
  refine U3 ?_;refine .cl (fun H hs=> MQ M H code _ hc) ?_;refine .x (oA.lookup (E:=en) (v:=.bool false) 1 rfl rfl rfl (fun H hs=> ⟨true,hs.at_ (m,true,.map es cl) (by simp)⟩) rfl rfl rfl dE (yK _) (ZQ hm) rH) ?_;refine U9 ?_;refine .rt hK func18 results18 [_,_] ?_;exact fun H' hs=> ⟨hs.base,by rw[PB];rfl⟩
 | true=>
  rw[Z5] at rH;refine U3 ?_;refine .cl (fun H hs=> MQ M H code _ hc) ?_;refine .x (oA.lookup (E:=en) (v:=.bool true) 1 rfl rfl rfl (fun H hs=> ⟨true,hs.at_ (m,true,.map es cl) (by simp)⟩) rfl rfl rfl dE (yK _) (ZQ hm) rH) ?_;refine U7 ?_;refine .x (oA.aAn (E:=en) (es:=es) (cl₀:=cl) rfl rfl rfl rfl rfl (fun H hs=> ⟨true,hs.at_ (m,true,.map es cl) (by simp)⟩) rfl rfl) ?_;by_cases h1:es.size=1
  ·have PB:k.bK code=1:=by unfold Lk.bK Lk.seen;rw[Z5,<-QD,h1];rfl
   refine U9 ?_;refine .rt hK func18 results18 [_,_] ?_;exact fun H' hs=> ⟨hs.base,by rw[PB];rfl⟩
  ·have PB:k.bK code=0:=by unfold Lk.bK Lk.seen;rw[Z5,<-QD,if_pos rfl,if_neg h1]
   refine eF ?_;refine .rt hK func18 results18 [_,_] ?_;exact fun H' hs=> ⟨hs.base,by rw[PB];rfl⟩
end
theorem q5(code:Nat)(x:Nat×Nat×List Value)(j:Nat)(hj:j<(bA code 7).length):SB true 2 (wB (bA code 7)++x.2.2) (0+j*2)=some (ZD ((bA code 7)[j]?.getD 0) j):=by
 obtain⟨f,es,et,ez,h1,h2⟩:=ED (H:=View.put (fun _=> none) x.1 (true,.cells ⟨wB (bA code 7)++x.2.2⟩ 108 (0,0))) (code:=code) (x:=x) (fun y hy=> by
  simp only[oG,List.mem_singleton] at hy;subst hy;exact View.qA ..)
 rw[View.qA] at h1;simp only[Option.some.injEq,Prod.mk.injEq,Obj.cells.injEq,Array.mk.injEq] at h1;obtain⟨_,rfl,_⟩:=h1;exact h2 j hj
def TB(l:List Nat):List Value:=l.map fun p=> .int .i64 (p:Nat)
theorem KQ(l:List Nat)(j:Nat)(h:j<l.length):TB (l.take (j+1))=TB (l.take j)++[.int .i64 ((l[j]?.getD 0:Nat):Int)]:=by
 unfold TB;rw[List.take_succ_eq_append_getElem h,List.map_append,List.getElem?_eq_getElem h];rfl
section
variable(M:Md prog)(H:View)
theorem E3(code:Nat)(hc:code<32):cA M 16 #[.int .i64 code] H (AV (TB (bA code 7)) H):=by
 refine .en func16 ntmps16 fun St c cs hK=> ?_;have VM:=(ND code hc).2.1;refine U9 ?_;refine .cl (fun H hs=> XM M H code oM) ?_;refine JL ?_;refine .e (Or.uA (FH code) (oG code) (fun _=> True) rfl rfl rfl rfl rfl dE (qC code) (fun H hs=> .h (DF M H code hc)) (fun x hx=> ?_));refine U5 ?_;refine Tc.db (Tc.vA (σ:= { s:Nat×Gl 3 1//s.1<=(bA code 7).length/\s.2.l=TB ((bA code 7).take s.1) })
  (fun s=> ([(14,.int .i64 (s.1.1:Nat)),(13,.int .i64 ((bA code 7).length:Nat)),(12,.slice (some ⟨x.1,0,none⟩) (bA code 7).length x.2.1),(4,s.1.2.val)],oG code x++s.1.2.bl)) (fun s=> (bA code 7).length-s.1.1) ?_ ⟨(0,Gl.nil 3 1),by simp,rfl⟩)
 rintro⟨⟨j,g⟩,g1,g2⟩ ih;simp only at g1 g2;have hlen:g.n=j:=by
  have h1:=g.hl;rw[g2] at h1;unfold TB at h1;rw[List.length_map,List.length_take] at h1;omega
 show Tc M St _ _ _ _ [(14,.int .i64 (j:Nat)),(13,.int .i64 ((bA code 7).length:Nat)),(12,.slice (some ⟨x.1,0,none⟩) (bA code 7).length x.2.1),(4,g.val)] (oG code x++g.bl) _ _;by_cases c1:j=(bA code 7).length
 ·subst c1;refine aJ ?_;refine .rt hK func16 results16 [_,_] ?_;exact fun H' hs=> ⟨hs.base,g,rfl,by rw[g2,List.take_length],fun y hy=> ⟨hs.at_ y (by simp[hy]),hs.out y (by simp[hy])⟩⟩
 ·have c2:j<(bA code 7).length:=by omega
  have f1:SB true 2 (wB (bA code 7)++x.2.2) (0+(j:Int).toNat*2)=some (ZD ((bA code 7)[j]?.getD 0) j):=by rw[show(j:Int).toNat=j by simp];exact q5 code x j c2
  refine aJ ?_;refine .al fun b6=> ?_;refine U6 ?_;refine .e (.bs (zz:=fun bs=> ?_));refine .e (Or.append (E:=en) 3 rfl rfl rfl rfl rfl rfl rfl rfl rfl rfl rfl rfl rfl rfl rfl (fun H hs=> NA.of (hs.get (i:=0) rfl) (Nat.le_of_ble_eq_true rfl)) rfl oM rfl dE (fun g' hn hl=> ?_));refine U7 ?_;exact Tc.db (ih ⟨(j+1,g'),by simp only;omega,by simp only;rw[hl,g2,KQ _ _ c2];rfl⟩ (by simp only;omega))
theorem aBz:prog.underlying 9=some .string:=by kernel_rfl
theorem O3:cA M 134 #[.int .u64 0] H (fun v H'=> H.le H'/\v=.int .i64 0):=by
 refine .en func134 ntmps134 fun St c cs hK=> ?_;refine U33 ?_;refine .x (oA.jK (c:=0) rfl rfl rfl aBz dE (by decide +kernel)) ?_;refine U4 ?_;refine .rt hK func134 results134 [_] ?_;exact okB
theorem P3:cA M 134 #[.int .u64 1] H (fun v H'=> H.le H'/\v=.int .i64 1):=by
 refine .en func134 ntmps134 fun St c cs hK=> ?_;refine U33 ?_;refine .x (oA.jK (c:=1) rfl rfl rfl aBz dE (by decide +kernel)) ?_;refine U4 ?_;refine .rt hK func134 results134 [_] ?_;exact okB
theorem CU(sv:Option Addr)(n cap:Nat)(hn:n<=1):cA M 124 #[.slice sv n cap,.int .i64 0,.int .i64 n] H (fun v H'=> H.le H'/\v=.tuple ⟨[]⟩):=by
 refine .en func124 ntmps124 fun St c cs hK=> ?_;refine U5 ?_;refine .done (.block (.loop (.seq (.sr ?_))));refine U6 ?_;refine .ov hK func124 results124 [] ?_;exact okB
theorem sW(sv:Option Addr)(n cap:Nat)(li:Int)(hn:n<=1):cA M 91 #[.slice sv n cap,.int .i64 0,.int .i64 n,.int .i64 li] H (fun v H'=> H.le H'/\v=.tuple ⟨[]⟩):=by
 refine .en func91 ntmps91 fun St c cs hK=> ?_;refine U7 ?_;refine .done (.block (.loop (.block (.sr ?_))));refine xT ?_;refine .cl (fun H hs=> CU M H sv n cap hn) ?_;refine U ?_;refine .rt hK func91 results91 [] ?_;exact okB
theorem xY(sv:Option Addr)(n cap:Nat)(hn:n<=1):cA M 56 #[.slice sv n cap] H (fun v H'=> H.le H'/\v=.tuple ⟨[]⟩):=by
 rcases(by omega:n=0\/n=1) with rfl|rfl
 ·have hlen:∀H,cA M 92 #[.int .u64 0] H (fun v H'=> H.le H'/\v=.int .i64 0):=fun H=> by
   refine .en func92 ntmps92 fun St c cs hK=> ?_;refine zI ?_;refine .cl (fun H hs=> O3 M H) ?_;refine U2 ?_;refine .rt hK func92 results92 [_] ?_;exact okB
  refine .en func56 ntmps56 fun St c cs hK=> ?_;refine eF ?_;refine .cl (fun H hs=> hlen H) ?_;refine .cl (fun H hs=> sW M H sv 0 cap 0 oM) ?_;refine U ?_;refine .ov hK func56 results56 [] ?_;exact okB
 ·have hlen:∀H,cA M 92 #[.int .u64 1] H (fun v H'=> H.le H'/\v=.int .i64 1):=fun H=> by
   refine .en func92 ntmps92 fun St c cs hK=> ?_;refine zI ?_;refine .cl (fun H hs=> P3 M H) ?_;refine U2 ?_;refine .rt hK func92 results92 [_] ?_;exact okB
  refine .en func56 ntmps56 fun St c cs hK=> ?_;refine eF ?_;refine .cl (fun H hs=> hlen H) ?_;refine .cl (fun H hs=> sW M H sv 1 cap 1 oM) ?_;refine U ?_;refine .ov hK func56 results56 [] ?_;exact okB
end
structure Ch.Good(c:Ch):Prop where
 ok:c.Ok
 s:tB c.s0 c.s1=true
 a:tB c.a0 c.a1=true
 r:tB c.r0 c.r1=true
 ln:∀i,i<c.n->(⟨0,0,0,0,c.x i,c.y i,c.z i,c.u i⟩:Lk).bI=true
theorem Ch.Good.NL {c:Ch}(h:c.Good)(i:Nat)(hf:c.fits i=true):(c.lk i).ok=true:=by
 have hs:(c.lk i).sends=true:=by
  show tB (if i=0 then c.s0 else c.a0) (if i=0 then c.s1 else c.a1)=true;by_cases e:i=0
  ·rw[if_pos e,if_pos e];exact h.s
  ·rw[if_neg e,if_neg e];exact h.a
 have hr:(c.lk i).reads=true:=by
  show tB (if i<c.m then c.a0 else c.r0) (if i<c.m then c.a1 else c.r1)=true;by_cases e:i<c.m
  ·rw[if_pos e,if_pos e];exact h.a
  ·rw[if_neg e,if_neg e];exact h.r
 unfold Ch.fits at hf;simp only[Lk.bI,tD,Lk.S4,Bool.true_and,Bool.and_eq_true] at hf;obtain⟨h1,h2⟩:=hf;have h1':(c.lk i).nS=true:=h1;have B8:(c.lk i).uS=true:=h2;simp[Lk.ok,tD,Lk.S4,hs,hr,h1',B8]
def Ch.KJ(c:Ch)(lb lo lc:Nat):Value:=.agg ⟨[.int .i64 c.s0,.int .i64 c.s1,.slice (some ⟨lb,lo,none⟩) c.n lc,.int .i64 c.a0,.int .i64 c.a1,.int .i64 c.r0,.int .i64 c.r1]⟩
section
variable(M:Md prog)(H:View)
theorem qD(a b:Int)(h:tB a b=true):cA M 71 #[rB a b] H (fun v H'=> H.le H'/\v=.bool true):=
 cA.mono (HI M H a b) (by rintro v H' ⟨h1,h2⟩;exact⟨h1,h2.trans (congrArg Value.bool h)⟩)
theorem BM(x y z u:Int)(hG:FC H)(h:(⟨0,0,0,0,x,y,z,u⟩:Lk).bI=true):cA M 111 #[fF x y z u] H (fun v H'=> H.le H'/\v=.int .i64 0):=
 cA.mono (RF M H x y z u hG) (by rintro v H' ⟨h1,h2⟩;rw[h] at h2;exact⟨h1,h2⟩)
theorem ML(ch:Ch)(lb lo lc:Nat)(A:Option Addr)(hA:SG H ch lb lo lc A)(hg:ch.Good)(hG:FC H):
  cA M 72 #[.slice (some ⟨lb,lo,none⟩) ch.n lc] H (fun v H'=> H.le H'/\v=.int .i64 0):=by
 refine .en func72 ntmps72 fun St c cs hK=> ?_;obtain⟨f,gs,gt,gz,hA1,F5⟩:=hA.ln;have qU:=hg.ok.n0;have N8:=hg.ok.n4;refine U26 ?_;refine Tc.db (Tc.vA (σ:= { j:Nat//j<=ch.n }) (fun j=> ([(14,.slice (some ⟨lb,lo,none⟩) ch.n lc),(15,.int .i64 (ch.n:Nat)),(16,.int .i64 (j.1:Nat)),(2,.int .i64 0)],[])) (fun j=> ch.n-j.1) ?_ ⟨0,oM⟩);rintro⟨j,hj⟩ ih;show Tc M St _ _ _ _ [(14,.slice (some ⟨lb,lo,none⟩) ch.n lc),(15,.int .i64 (ch.n:Nat)),(16,.int .i64 (j:Nat)),(2,.int .i64 0)] [] _ _;by_cases c1:j=ch.n
 ·subst c1;refine eF ?_;refine .rt hK func72 results72 [_] ?_;exact okB
 ·have c2:j<ch.n:=by omega
  have f1:SB true 4 gs (lo+(j:Int).toNat*4)=some (fF (ch.x j) (ch.y j) (ch.z j) (ch.u j)):=by rw[show(j:Int).toNat=j by simp];exact F5 j c2
  refine aJ ?_;refine .al fun b4=> ?_;refine U5 ?_;refine .cl (fun H hs=> BM M H (ch.x j) (ch.y j) (ch.z j) (ch.u j) (HA hG hs.base) (hg.ln j c2)) ?_;refine zH ?_;exact Tc.db (ih ⟨j+1,oM⟩ (by simp only;omega))
theorem oH(ch:Ch)(lb lo lc:Nat)(A:Option Addr)(hA:SG H ch lb lo lc A)(hg:ch.Good)(hG:FC H):
  cA M 30 #[ch.KJ lb lo lc] H (fun v H'=> H.le H'/\v=.int .i64 0):=by
 refine .en func30 ntmps30 fun St c cs hK=> ?_;refine U2 ?_;refine .bo fun b1=> ?_;refine WL ?_;refine Tc.db (Tc.vA (σ:= { j:Nat//j<=3 }) (fun j=> ([(11,.agg ⟨[.int .i64 ch.s0,.int .i64 ch.s1,.int .i64 ch.a0,.int .i64 ch.a1,.int .i64 ch.r0,.int .i64 ch.r1]⟩),(1,.pointer (some ⟨b1,0,none⟩)),(12,.int .i64 (j.1:Nat)),(2,.int .i64 0)],[(b1,true,.cells ⟨(ch.KJ lb lo lc).cells.toList⟩ 26 (0,0))])) (fun j=> 3-j.1) ?_ ⟨0,oM⟩);rintro⟨j,hj⟩ ih;show Tc M St _ _ _ _ [(11,.agg ⟨[.int .i64 ch.s0,.int .i64 ch.s1,.int .i64 ch.a0,.int .i64 ch.a1,.int .i64 ch.r0,.int .i64 ch.r1]⟩),(1,.pointer (some ⟨b1,0,none⟩)),(12,.int .i64 (j:Nat)),(2,.int .i64 0)] [(b1,true,.cells ⟨(ch.KJ lb lo lc).cells.toList⟩ 26 (0,0))] _ _;rcases(by omega:j=0\/j=1\/j=2\/j=3) with rfl|rfl|rfl|rfl
 ·refine eF ?_;refine .x (oA.index (E:=en) rfl rfl rfl rfl rfl rfl oM oM (by exact rfl)) ?_;refine .al fun b4=> ?_;refine U5 ?_;refine .cl (fun H hs=> qD M H ch.s0 ch.s1 hg.s) ?_;refine U9 ?_;exact Tc.db (ih ⟨1,oM⟩ (by simp))
 ·refine eF ?_;refine .x (oA.index (E:=en) rfl rfl rfl rfl rfl rfl oM oM (by exact rfl)) ?_;refine .al fun b4=> ?_;refine U5 ?_;refine .cl (fun H hs=> qD M H ch.a0 ch.a1 hg.a) ?_;refine U9 ?_;exact Tc.db (ih ⟨2,oM⟩ (by simp))
 ·refine eF ?_;refine .x (oA.index (E:=en) rfl rfl rfl rfl rfl rfl oM oM (by exact rfl)) ?_;refine .al fun b4=> ?_;refine U5 ?_;refine .cl (fun H hs=> qD M H ch.r0 ch.r1 hg.r) ?_;refine U9 ?_;exact Tc.db (ih ⟨3,oM⟩ (by simp))
 ·refine eF ?_;refine .cl (fun H hs=> ML M H ch lb lo lc A (hA.le hs.base) hg (HA hG hs.base)) ?_;refine U2 ?_;refine .rt hK func30 results30 [_] ?_;exact okB
theorem lN(ch:Ch)(lb lo lc ac:Nat)(A:Option Addr)(hA:SG H ch lb lo lc A)(hg:ch.Good)(hG:FC H):
  cA M 66 #[ch.KJ lb lo lc,.slice A ch.m ac] H (fun v H'=> H.le H'/\v=.tuple ⟨[ch.val lb lo lc ac A,.int .i64 0]⟩):=by
 refine .en func66 ntmps66 fun St c cs hK=> ?_;have qU:=hg.ok.n0;have N8:=hg.ok.n4;have hmn:=hg.ok.D6;refine U2 ?_;refine .bo fun b2=> ?_;refine .al fun b4=> ?_;refine U6 ?_;refine .cl (fun H hs=> oH M H ch lb lo lc A (hA.le hs.base) hg (HA hG hs.base)) ?_;refine xT ?_;refine Tc.db (Tc.vA (σ:= { j:Nat//j<=ch.m }) (fun j=> ([(1,.slice A ch.m ac),(2,.pointer (some ⟨b2,0,none⟩)),(4,.pointer (some ⟨b4,0,none⟩)),(15,.slice A ch.m ac),(16,.int .i64 (ch.m:Nat)),(17,.int .i64 (j.1:Nat))],
  [(b4,true,.cells ⟨[.int .i64 0,.int .i64 0,.slice none 0 0,.int .i64 0,.int .i64 0,.int .i64 0,.int .i64 0,.slice none 0 0]⟩ 133 (0,0)),(b2,true,.cells ⟨(ch.KJ lb lo lc).cells.toList⟩ 26 (0,0))])) (fun j=> ch.m-j.1) ?_ ⟨0,oM⟩)
 rintro⟨j,hj⟩ ih;show Tc M St _ _ _ _ [(1,.slice A ch.m ac),(2,.pointer (some ⟨b2,0,none⟩)),(4,.pointer (some ⟨b4,0,none⟩)),(15,.slice A ch.m ac),(16,.int .i64 (ch.m:Nat)),(17,.int .i64 (j:Nat))]
  [(b4,true,.cells ⟨[.int .i64 0,.int .i64 0,.slice none 0 0,.int .i64 0,.int .i64 0,.int .i64 0,.int .i64 0,.slice none 0 0]⟩ 133 (0,0)),(b2,true,.cells ⟨(ch.KJ lb lo lc).cells.toList⟩ 26 (0,0))] _ _
 by_cases c1:j=ch.m
 ·subst c1;refine WL ?_;refine .rt hK func66 results66 [_,_] ?_;exact okB
 ·have c2:j<ch.m:=by omega
  obtain⟨ab,ao,f,gs,gt,gz,rfl,hA3,hA4⟩:=hA.at_ oM;have f1:SB false 1 gs (ao+(j:Int).toNat*1)=some (.int .i64 (ch.at_ j:Nat)):=by rw[show(j:Int).toNat=j by simp];exact hA4 j c2
  have mB:=hg.ok.lt j c2;by_cases c0:j=0
  ·subst c0;refine U56 ?_;exact Tc.db (ih ⟨1,oM⟩ (by simp only;omega))
  ·have f2:SB false 1 gs (ao+((j:Int)-1).toNat*1)=some (.int .i64 (ch.at_ (j-1):Nat)):=by rw[show((j:Int)-1).toNat=j-1 by omega];exact hA4 (j-1) oM
   have hmo:=hg.ok.SZ j (j-1) oM c2;refine U56 ?_;exact Tc.db (ih ⟨j+1,oM⟩ (by simp only;omega))
end
end Go.Proofs.YtgkmnalhddmclaaGreatDoor
namespace Go.Proofs.YtgkmnalhddmclaaGreatDoor
open Go.RL Go.Proofs.Tryz Go.Conc
set_option maxRecDepth 10000
theorem aCd:BD prog 139 (Extern.Race.marked .releaseMerge):=⟨Tryz.f139,func139,by kernel_rfl,by kernel_rfl,by kernel_rfl,by kernel_rfl⟩
theorem RY:BD prog 140 aX:=⟨Tryz.f140,func140,by kernel_rfl,by kernel_rfl,by kernel_rfl,by kernel_rfl⟩
theorem gO:BD prog 141 enE:=⟨Tryz.f141,func141,by kernel_rfl,by kernel_rfl,by kernel_rfl,by kernel_rfl⟩
theorem aCe:BD prog 142 (fun _=> pure (.bool false)):=⟨Tryz.f142,func142,by kernel_rfl,by kernel_rfl,by kernel_rfl,by kernel_rfl⟩
theorem aDT:BD prog 147 (Extern.Race.marked .read):=⟨Tryz.f147,func147,by kernel_rfl,by kernel_rfl,by kernel_rfl,by kernel_rfl⟩
theorem aDU:BD prog 151 Extern.Sync.semrelease:=⟨Tryz.f151,func151,by kernel_rfl,by kernel_rfl,by kernel_rfl,by kernel_rfl⟩
theorem j5:BD prog 155 (Extern.Race.marked .acquire):=⟨Tryz.f155,func155,by kernel_rfl,by kernel_rfl,by kernel_rfl,by kernel_rfl⟩
theorem aDV:BD prog 158 (Extern.Race.marked .write):=⟨Tryz.f158,func158,by kernel_rfl,by kernel_rfl,by kernel_rfl,by kernel_rfl⟩
theorem aDW:BD prog 159 Extern.Sync.semacquire:=⟨Tryz.f159,func159,by kernel_rfl,by kernel_rfl,by kernel_rfl,by kernel_rfl⟩
theorem aCf:BD prog 178 (Extern.Atomic.update (Op.intArith .add) .u64 true):=⟨Tryz.f178,func178,by kernel_rfl,by kernel_rfl,by kernel_rfl,by kernel_rfl⟩
theorem L9:BD prog 179 (Extern.Atomic.loadT (.int .u64)):=⟨Tryz.f179,func179,by kernel_rfl,by kernel_rfl,by kernel_rfl,by kernel_rfl⟩
theorem aDY:BD prog 180 Extern.Atomic.storeT:=⟨Tryz.f180,func180,by kernel_rfl,by kernel_rfl,by kernel_rfl,by kernel_rfl⟩
theorem m5:BD prog 181 (Extern.Atomic.casT (.int .i32)):=⟨Tryz.f181,func181,by kernel_rfl,by kernel_rfl,by kernel_rfl,by kernel_rfl⟩
theorem p5:BD prog 183 (Extern.Atomic.update (Op.intArith .add) .i32 true):=⟨Tryz.f183,func183,by kernel_rfl,by kernel_rfl,by kernel_rfl,by kernel_rfl⟩
theorem aDZ:BD prog 185 (Extern.Atomic.casT (.int .u64)):=⟨Tryz.f185,func185,by kernel_rfl,by kernel_rfl,by kernel_rfl,by kernel_rfl⟩
theorem aD1:BD prog 206 Extern.Sync.canSpin:=⟨Tryz.f206,func206,by kernel_rfl,by kernel_rfl,by kernel_rfl,by kernel_rfl⟩
theorem aD2:BD prog 207 Extern.Sync.nothing:=⟨Tryz.f207,func207,by kernel_rfl,by kernel_rfl,by kernel_rfl,by kernel_rfl⟩
theorem aCg:F3 prog 209:=⟨Tryz.f209,func209,by kernel_rfl,by kernel_rfl,by kernel_rfl,by kernel_rfl,by kernel_rfl⟩
theorem aD3:BD prog 210 Extern.Sync.semacquire:=⟨Tryz.f210,func210,by kernel_rfl,by kernel_rfl,by kernel_rfl,by kernel_rfl⟩
theorem aCh:BD prog 212 Extern.Sync.semrelease:=⟨Tryz.f212,func212,by kernel_rfl,by kernel_rfl,by kernel_rfl,by kernel_rfl⟩
theorem gC:aH prog 182 0=some 0:=by kernel_rfl
theorem OM:aH prog 182 1=some 1:=by kernel_rfl
theorem RR:aH prog 184 1=some 0:=by kernel_rfl
theorem dK:aH prog 189 2=some 0:=by kernel_rfl
theorem xF:aH prog 191 1=some 0:=by kernel_rfl
theorem eK:aH prog 191 2=some 1:=by kernel_rfl
theorem rV:prog.underlying 225=some (.pointer 191):=by kernel_rfl
theorem qI:prog.underlying 196=some .unsafePointer:=by kernel_rfl
theorem J1:prog.underlying 231=some (.pointer 180):=by kernel_rfl
theorem sV:prog.underlying 256=some (.pointer 182):=by kernel_rfl
theorem J7:prog.underlying 3=some (.int .i64):=by kernel_rfl
theorem tP:prog.underlying 21=some (.int .i32):=by kernel_rfl
theorem XQ:prog.underlying 180=some (.int .u32):=by kernel_rfl
theorem sG:prog.underlying 187=some (.int .u64):=by kernel_rfl
theorem lV:(prog.info? 191).map (·.size)=some (1+1):=by kernel_rfl
theorem B1:(prog.info? 180).map (·.size)=some (0+1):=by kernel_rfl
theorem kV:(prog.info? 182).map (·.size)=some (1+1):=by kernel_rfl
theorem zO:wH prog 21=some false:=by kernel_rfl
end Go.Proofs.YtgkmnalhddmclaaGreatDoor
namespace Go.Proofs.YtgkmnalhddmclaaGreatDoor
open Go.RL Go.Proofs.Tryz Go.Conc Go.ConcN Go.RL.Au
open Go.ConcR (stA smA)
open Go.ConcM (muA msA)
set_option maxRecDepth 10000
section
variable {main:Bool}{sh:Z3}{J:Goroutine->Prop}{K:Value->(Goroutine->Prop)->Prop}{blk off:Nat}
def KC(main:Bool)(K:Value->(Goroutine->Prop)->Prop):Prop:=∀v J',K v J'->∃sh',Cl prog main sh' J'
theorem R7 {d:Int}(hc:Cl prog main sh J)(hk:KC main K)(h:PD J 178 [.pointer (some ⟨blk,off,none⟩),.int .u64 d] K):PD J 146 [.pointer (some ⟨blk,off,none⟩),.int .u64 d] K:=by
 refine NJ.at (by exact hc) aBZ (NJ.enter (vs:= [.pointer (some ⟨blk,off,none⟩),.int .u64 d]) func146 rfl ntmps146 (Nat.le_of_ble_eq_true rfl) fun c cs hK=> ?_);refine .sq (.rg rfl rfl ?_);refine .g ?_;refine .dn (.sq (.rg rfl rfl ?_));refine .m ?_;refine .x .nk ?_;refine .x (.fa (zz:=dK)) ?_;refine .m ?_;refine So.QA rfl rfl rfl nofun rfl (.mk' rfl) rfl (h) ?_;intro v J' hv;obtain⟨sh',hc⟩:=hk v J' hv;refine .g ?_;refine .dn ?_;refine Sc.kC (by exact hc) rfl (Sb.leave (by exact hc) func146 rfl (by exact .inr ⟨_,results146,rfl⟩) ?_);exact hK v J' hv
theorem LU(hc:Cl prog main sh J)(hk:KC main K)(h:PD J 179 [.pointer (some ⟨blk,off,none⟩)] K):PD J 148 [.pointer (some ⟨blk,off,none⟩)] K:=by
 refine NJ.at (by exact hc) aB0 (NJ.enter (vs:= [.pointer (some ⟨blk,off,none⟩)]) func148 rfl ntmps148 (Nat.le_of_ble_eq_true rfl) fun c cs hK=> ?_);refine .sq (.rg rfl rfl ?_);refine .g ?_;refine .dn (.sq (.rg rfl rfl ?_));refine .m ?_;refine .x .nk ?_;refine .x (.fa (zz:=dK)) ?_;refine So.QA rfl rfl rfl nofun rfl (.mk' rfl) rfl (h) ?_;intro v J' hv;obtain⟨sh',hc⟩:=hk v J' hv;refine .g ?_;refine .dn ?_;refine Sc.kC (by exact hc) rfl (Sb.leave (by exact hc) func148 rfl (by exact .inr ⟨_,results148,rfl⟩) ?_);exact hK v J' hv
theorem D7 {d:Int}(hc:Cl prog main sh J)(hk:KC main K)(hu:∀v J',K v J'->v=.tuple #[])(h:PD J 180 [.pointer (some ⟨blk,off,none⟩),.int .u64 d] K):PD J 149 [.pointer (some ⟨blk,off,none⟩),.int .u64 d] K:=by
 refine NJ.at (by exact hc) aB1 (NJ.enter (vs:= [.pointer (some ⟨blk,off,none⟩),.int .u64 d]) func149 rfl ntmps149 (Nat.le_of_ble_eq_true rfl) fun c cs hK=> ?_);refine .rg rfl rfl ?_;refine .m ?_;refine .x .nk ?_;refine .x (.fa (zz:=dK)) ?_;refine .m ?_;refine So.QA rfl rfl rfl nofun rfl (.mk' rfl) rfl (h) ?_;intro v J' hv;obtain⟨sh',hc⟩:=hk v J' hv;refine .dn ?_;refine Sc.over (by exact hc) rfl (Sb.leave (by exact hc) func149 rfl (by exact .inl ⟨results149,rfl⟩) ?_);exact hu v J' hv▸hK v J' hv
theorem aCa {d e:Int}(hc:Cl prog main sh J)(hk:KC main K)(h:PD J 185 [.pointer (some ⟨blk,off,none⟩),.int .u64 d,.int .u64 e] K):PD J 157 [.pointer (some ⟨blk,off,none⟩),.int .u64 d,.int .u64 e] K:=by
 refine NJ.at (by exact hc) aB4 (NJ.enter (vs:= [.pointer (some ⟨blk,off,none⟩),.int .u64 d,.int .u64 e]) func157 rfl ntmps157 (Nat.le_of_ble_eq_true rfl) fun c cs hK=> ?_);refine .sq (.rg rfl rfl ?_);refine .g ?_;refine .dn (.sq (.rg rfl rfl ?_));refine .m ?_;refine .x .nk ?_;refine .x (.fa (zz:=dK)) ?_;refine .m ?_;refine .m ?_;refine So.QA rfl rfl rfl nofun rfl (.mk' rfl) rfl (h) ?_;intro v J' hv;obtain⟨sh',hc⟩:=hk v J' hv;refine .g ?_;refine .dn ?_;refine Sc.kC (by exact hc) rfl (Sb.leave (by exact hc) func157 rfl (by exact .inr ⟨_,results157,rfl⟩) ?_);exact hK v J' hv
end
set_option maxHeartbeats 4000000
theorem aDC:∀x:Nat,x<128->XD .and .i32 (x:Int) 5=((x%2+x/4%2*4:Nat):Int):=by decide +kernel
theorem aDB:∀x:Nat,x<128->XD .and .i32 (x:Int) 4=((x/4%2*4:Nat):Int):=by decide +kernel
theorem aDA:∀x:Nat,x<128->XD .and .i32 (x:Int) 3=((x%4:Nat):Int):=by decide +kernel
theorem aDz:∀x:Nat,x<128->XD .and .i32 (x:Int) 2=((x/2%2*2:Nat):Int):=by decide +kernel
theorem aDy:∀x:Nat,x<128->XD .and .i32 (x:Int) 1=((x%2:Nat):Int):=by decide +kernel
theorem aDD:∀x:Nat,x<128->XD .and .i32 (x:Int) 7=((x%8:Nat):Int):=by decide +kernel
theorem or1:∀x:Nat,x<128->XD .or .i32 (x:Int) 1=((x+1-x%2:Nat):Int):=by decide +kernel
theorem or2:∀x:Nat,x<128->XD .or .i32 (x:Int) 2=((x+2-x/2%2*2:Nat):Int):=by decide +kernel
theorem or4:∀x:Nat,x<128->XD .or .i32 (x:Int) 4=((x+4-x/4%2*4:Nat):Int):=by decide +kernel
theorem G4:∀x:Nat,x<128->XD .andNot .i32 (x:Int) 2=((x-x/2%2*2:Nat):Int):=by decide +kernel
theorem aEI:∀x:Nat,x<128->(x:Int).fdiv (2 ^ (min (3:Int).toNat IntKind.i32.bits))=((x/8:Nat):Int):=by decide +kernel
theorem qH(x:Nat)(h:x<128):gA .and .i32 (x:Int) 5=some (.int .i32 ((x%2+x/4%2*4:Nat):Int)):=by rw[<-aDC x h];rfl
theorem NF(x:Nat)(h:x<128):gA .and .i32 (x:Int) 4=some (.int .i32 ((x/4%2*4:Nat):Int)):=by rw[<-aDB x h];rfl
theorem DY(x:Nat)(h:x<128):gA .and .i32 (x:Int) 3=some (.int .i32 ((x%4:Nat):Int)):=by rw[<-aDA x h];rfl
theorem yM(x:Nat)(h:x<128):gA .and .i32 (x:Int) 2=some (.int .i32 ((x/2%2*2:Nat):Int)):=by rw[<-aDz x h];rfl
theorem EV(x:Nat)(h:x<128):gA .and .i32 (x:Int) 1=some (.int .i32 ((x%2:Nat):Int)):=by rw[<-aDy x h];rfl
theorem S7(x:Nat)(h:x<128):gA .and .i32 (x:Int) 7=some (.int .i32 ((x%8:Nat):Int)):=by rw[<-aDD x h];rfl
theorem CX(x:Nat)(h:x<128):gA .or .i32 (x:Int) 1=some (.int .i32 ((x+1-x%2:Nat):Int)):=by rw[<-or1 x h];rfl
theorem aCU(x:Nat)(h:x<128):gA .or .i32 (x:Int) 2=some (.int .i32 ((x+2-x/2%2*2:Nat):Int)):=by rw[<-or2 x h];rfl
theorem aEA(x:Nat)(h:x<128):gA .or .i32 (x:Int) 4=some (.int .i32 ((x+4-x/4%2*4:Nat):Int)):=by rw[<-or4 x h];rfl
theorem ZJ(x:Nat)(h:x<128):gA .andNot .i32 (x:Int) 2=some (.int .i32 ((x-x/2%2*2:Nat):Int)):=by rw[<-G4 x h];rfl
theorem fJ(x:Nat)(h:x<128):NC .shr .i32 (x:Int) 3=some (.int .i32 ((x/8:Nat):Int)):=by rw[<-aEI x h];rfl
theorem zR(x:Nat)(h:x<1000):gA .add .i32 (x:Int) 8=some (.int .i32 ((x+8:Nat):Int)):=by
 show some (Value.int .i32 (IntKind.i32.wrap ((x:Int)+8)))=_;rw[wrap_i32 oM oM];rfl
theorem Q7(x:Nat)(h:x<1000):gA .add .i32 (x:Int) 1=some (.int .i32 ((x+1:Nat):Int)):=by
 show some (Value.int .i32 (IntKind.i32.wrap ((x:Int)+1)))=_;rw[wrap_i32 oM oM];rfl
theorem aDl(x:Nat)(h:8<=x/\x<1000):gA .sub .i32 (x:Int) 8=some (.int .i32 ((x-8:Nat):Int)):=by
 show some (Value.int .i32 (IntKind.i32.wrap ((x:Int)-8)))=_;rw[wrap_i32 oM oM]
 congr 2
 omega
theorem oW:(prog.funcs[182]?).any (·.norace)=true:=by kernel_rfl
noncomputable def W4:Code:=VG Tryz.f182
noncomputable def T7:Code:=cR (cR (cR (cR (cR W4))))
noncomputable def zP:Code:=cB (cB (cL T7))
noncomputable def cG:Code:=cR T7
abbrev BR:FB:=⟨182,.normal,none⟩
section
variable {X:Fk}{κ:Nat}{D:Nat->Bool}{H:View}{cc:Frame}{cs:List Frame}
def WJ(X:Fk)(κ:Nat)(H:View)(v:Value)(J':Goroutine->Prop):Prop:=v=.tuple #[]/\∃k' D' o,D' κ=false/\X.GI D' o/\J'=Jw prog X κ k' .up D' (H.put X.C (true,o))
theorem eV(X:Fk):∃e c,X.X2 X.Mu=some (e,c)/\0<c:=⟨X.tM,2,by simp[Fk.X2],by decide⟩
theorem LI {k:Nat}{R:Rg}(hK:∀v J',WJ X κ H v J'->J' (G (cc.finish v) cs))(h0:lk R 0=some (.pointer (some ⟨X.Mu,0,none⟩))):Sc (Jw prog X κ k .le D H) 139 BR (cc::cs) R [] [.code cG]:=by
 refine Sc.drop (R':= [(0,.pointer (some ⟨X.Mu,0,none⟩))]) ⟨h0,trivial⟩ ?_;refine .tt rfl (.sq (.rg rfl rfl ?_));refine So.QA rfl rfl rfl nofun rfl (.mk' rfl) rfl (Jw.le gO) ?_;rintro v J' ⟨k,t, -,⟨rfl,rfl⟩,rfl⟩;refine .dn ?_;have SJ:=eV X;refine .rg rfl rfl ?_;refine .m ?_;refine .x (oC.raw rfl rfl sV qI kV (by assumption)) ?_;refine So.QA rfl rfl rfl nofun rfl (.mk' rfl) rfl (Jw.la j5) ?_;rintro v J' ⟨rfl,k',D',o, -,h1,h2,rfl⟩;refine .dn ?_;refine Sc.over (by exact Jw.RG rfl) rfl (Sb.leave (by exact Jw.RG rfl) func182 rfl (by exact .inl ⟨results182,rfl⟩) ?_);exact hK _ _ ⟨rfl,k',D',o,h1,h2,rfl⟩
abbrev RH(X:Fk)(o:Nat)(c:Lc)(z:Int):Rg:= [(0,.pointer (some ⟨X.Mu,0,none⟩)),(2,.int .i64 z),(3,.bool c.sv),(4,.bool c.aw),(5,.int .i64 (c.it:Int)),(6,.int .i32 (o:Int))]
def Head(X:Fk)(κ:Nat)(D:Nat->Bool)(H:View)(cc:Frame)(cs:List Frame)(k:Nat):Prop:=
 ∀ (o:Nat) (c:Lc) (z:Int),o<64->(c.aw=true->o/2%2=1/\o/4%2=0)->(c.sv=true->c.aw=true)->c.ws=decide (z≠0)-> 
  Sc (Jw prog X κ k (hd o c) D H) 139 BR (cc::cs) (RH X o c z) [] [.code zP,.inLoop zP,.inBlock 0,.code cG]
noncomputable def BB:Code:=cB zP
noncomputable def aCK:Code:=cR (cR (cR (cR (cR (cR (cR BB))))))
noncomputable def XX:Code:=cT aCK
theorem rP {k2:Nat}(hK:∀v J',WJ X κ H v J'->J' (G (cc.finish v) cs))(IH:∀k'<k2,Head X κ D H cc cs k')(ne:X.Mu≠X.Wg){R':Rg}{aw sv' ws:Bool}{it:Nat}{z:Int}(hw:ws=decide (z≠0))
  (hR':WB [(0,.pointer (some ⟨X.Mu,0,none⟩)),(2,.int .i64 z),(3,.bool sv'),(5,.int .i64 (it:Int)),(4,.bool aw)] R'):Sc (Jw prog X κ k2 (.r2 ⟨aw,sv',ws,it⟩) D H) 139 BR (cc::cs) R' [] [.code (cR (cR (cR (cR (cR XX))))),.inBlock 1,.inLoop zP,.inBlock 0,.code cG]:=by
 refine Sc.drop hR' ?_;refine .sq (.rg rfl rfl ?_);refine .m ?_;refine .x .nk ?_;refine .x (.fa (zz:=gC)) ?_;refine Jw.ldM rfl rfl rfl rfl rfl rfl rfl zO oW (fun s GB qE hf=> ?_);obtain⟨g1,g2⟩:=GB;have h64:=hf.1;by_cases h4:s.m/4%2=1
 ·obtain⟨m1,m2,m8⟩:=g1 h4;cases sv' with
  | false=>
   refine⟨.a1 true,by simp[Th.mv,h4],rfl,fun k3 K8=> ?_⟩;refine .g ?_;refine .dn (.sq (.sq (.rg rfl rfl ?_)));refine .m ?_;refine .i ?_ (z:=NF _ oM);refine .i ?_ (z:=SC oM);refine .dn (.tt rfl (.sq (.sq (.rg rfl rfl ?_))));refine .m ?_;refine .i ?_ (z:=DY _ oM);refine .i ?_ (z:=DC oM);refine .m ?_;refine .m ?_;refine .x (oC.shift rfl rfl rfl oM (by exact fJ _ oM)) ?_;refine .i ?_ (z:=CB oM);refine .x .pk ?_;refine .dn (.ff rfl (.sp (.sq (.rg rfl rfl ?_))));refine .g ?_;refine .dn (.sq (.sq (.rg rfl rfl ?_)));refine .m ?_;refine .x .nt ?_;refine .m ?_;refine .sk ?_;refine .sk ?_;refine .sk ?_;refine .x .pk ?_;refine .dn (.tt rfl (.rg rfl rfl ?_));refine .m ?_;refine .i ?_ (z:=by exact rfl);refine .g ?_;refine .dn (.sq (.rg rfl rfl ?_));refine .m ?_;refine .x .nk ?_;refine .x (.fa (zz:=gC)) ?_;refine .m ?_;refine So.QA rfl rfl rfl nofun rfl (.mk' rfl) rfl (Jw.a1 (bb:=true) ne p5) ?_;rintro v J' ⟨k4,t, -,⟨⟨y,rfl⟩,rfl⟩,rfl⟩;refine .dn (.xt rfl ?_);exact LI hK rfl
  | true=>
   by_cases e:s.m/8=1
   ·refine⟨.a1 true,by simp[Th.mv,h4,e],rfl,fun k3 K8=> ?_⟩;refine .g ?_;refine .dn (.sq (.sq (.rg rfl rfl ?_)));refine .m ?_;refine .i ?_ (z:=NF _ oM);refine .i ?_ (z:=SC oM);refine .dn (.tt rfl (.sq (.sq (.rg rfl rfl ?_))));refine .m ?_;refine .i ?_ (z:=DY _ oM);refine .i ?_ (z:=DC oM);refine .m ?_;refine .m ?_;refine .x (oC.shift rfl rfl rfl oM (by exact fJ _ oM)) ?_;refine .i ?_ (z:=CB oM);refine .x .pk ?_;refine .dn (.ff rfl (.sp (.sq (.rg rfl rfl ?_))));refine .g ?_;refine .dn (.sq (.sq (.rg rfl rfl ?_)));refine .m ?_;refine .x .nt ?_;refine .m ?_;refine .m ?_;refine .x (oC.shift rfl rfl rfl oM (by exact fJ _ oM)) ?_;refine .i ?_ (z:=vC oM);refine .x .pk ?_;refine .dn (.tt rfl (.rg rfl rfl ?_));refine .m ?_;refine .i ?_ (z:=by exact rfl);refine .g ?_;refine .dn (.sq (.rg rfl rfl ?_));refine .m ?_;refine .x .nk ?_;refine .x (.fa (zz:=gC)) ?_;refine .m ?_;refine So.QA rfl rfl rfl nofun rfl (.mk' rfl) rfl (Jw.a1 (bb:=true) ne p5) ?_;rintro v J' ⟨k4,t, -,⟨⟨y,rfl⟩,rfl⟩,rfl⟩;refine .dn (.xt rfl ?_);exact LI hK rfl
   ·refine⟨.a1 false,by simp[Th.mv,h4,e],rfl,fun k3 K8=> ?_⟩;refine .g ?_;refine .dn (.sq (.sq (.rg rfl rfl ?_)));refine .m ?_;refine .i ?_ (z:=NF _ oM);refine .i ?_ (z:=SC oM);refine .dn (.tt rfl (.sq (.sq (.rg rfl rfl ?_))));refine .m ?_;refine .i ?_ (z:=DY _ oM);refine .i ?_ (z:=DC oM);refine .m ?_;refine .m ?_;refine .x (oC.shift rfl rfl rfl oM (by exact fJ _ oM)) ?_;refine .i ?_ (z:=CB oM);refine .x .pk ?_;refine .dn (.ff rfl (.sp (.sq (.rg rfl rfl ?_))));refine .g ?_;refine .dn (.sq (.sq (.rg rfl rfl ?_)));refine .m ?_;refine .x .nt ?_;refine .m ?_;refine .m ?_;refine .x (oC.shift rfl rfl rfl oM (by exact fJ _ oM)) ?_;refine .i ?_ (z:=CB oM);refine .x .pk ?_;refine .dn (.ff rfl (.sp (.sq (.rg rfl rfl ?_))));refine .m ?_;refine .x .nk ?_;refine .x (.fa (zz:=gC)) ?_;refine .m ?_;refine So.QA rfl rfl rfl nofun rfl (.mk' rfl) rfl (Jw.a1 (bb:=false) ne p5) ?_;rintro v J' ⟨k4,t, -,⟨⟨y,rfl⟩,rfl⟩,rfl⟩;refine .dn (.xt rfl ?_);exact LI hK rfl
 ·have h2:=g2 oM;refine⟨hd s.m ⟨true,sv',ws,0⟩,by simp[Th.mv,h4],(by unfold hd;split <;> rfl),fun k3 K8=> ?_⟩;refine .g ?_;refine .dn (.sq (.sq (.rg rfl rfl ?_)));refine .m ?_;refine .i ?_ (z:=NF _ oM);refine .i ?_ (z:=DC oM);refine .dn (.ff rfl (.sp (.sq (.rg rfl rfl ?_))));refine .g ?_;refine .dn (.rg rfl rfl ?_);refine .g ?_;refine .dn (.ib ?_);refine Sc.inLoop (by exact Jw.QG) ?_;exact Sc.drop (by exact⟨rfl,rfl,rfl,rfl,rfl,rfl,trivial⟩) (IH k3 oM s.m ⟨true,sv',ws,0⟩ z h64 (fun _=> ⟨h2,oM⟩) (fun _=> rfl) hw)
theorem sP {k:Nat}(hK:∀v J',WJ X κ H v J'->J' (G (cc.finish v) cs))(IH:∀k'<k,Head X κ D H cc cs k')(ne:X.Mu≠X.Wg){R:Rg}{o:Nat}{aw sv ws q:Bool}{it:Nat}{z:Int}(hw:ws=decide (z≠0))
  (hR:WB ((8,.bool q)::RH X o ⟨aw,sv,ws,it⟩ z) R):Sc (Jw prog X κ k (.s1 ⟨aw,sv,ws,it⟩) D H) 139 BR (cc::cs) R [] [.code (cR (cR (cR XX))),.inBlock 1,.inLoop zP,.inBlock 0,.code cG]:=by
 refine Sc.drop hR ?_;refine .sq (.rg rfl rfl ?_);refine .m ?_;refine .x .nk ?_;refine .x (.fa (zz:=OM)) ?_;refine .m ?_;refine So.QA rfl rfl rfl nofun rfl (.mk' rfl) rfl (Jw.s1 ne (vs:= [.pointer (some ⟨X.Mu,1,none⟩),.bool q,.int .i64 2]) aD3 rfl) ?_;rintro v J' ⟨k1,t,nU,⟨rfl,rfl⟩,rfl⟩;refine .dn (.sq ?_);cases sv with
 | true=>
  refine .rg rfl rfl ?_;refine Jw.t2' rfl rfl rfl .mv (fun k2 nO=> ?_);refine .m ?_;refine .sk ?_;refine .sk ?_;refine .sk ?_;refine .sk ?_;refine .x .pk ?_;refine .g ?_;refine .dn ?_;exact rP hK (fun k' h=> IH k' oM) ne hw ⟨rfl,rfl,rfl,rfl,rfl,trivial⟩
 | false=>
  refine .rg rfl rfl ?_;refine .m ?_;refine .m ?_
  skip
  refine So.QA rfl rfl rfl nofun rfl (.mk' rfl) rfl (Jw.t2 aCg (fun z1=> decide (IntKind.i64.wrap (z1-z)>1000000)) (fun z1=> by cases decide (IntKind.i64.wrap (z1-z)>1000000) <;> simp)) ?_;rintro v J' ⟨k2,z1,nO,rfl,rfl⟩;refine .m ?_;refine .i ?_ (z:=by exact rfl);refine .i ?_ (z:=by exact rfl);refine .x .pk ?_;refine .g ?_;refine .dn ?_;exact rP hK (fun k' h=> IH k' oM) ne hw ⟨rfl,rfl,rfl,rfl,rfl,trivial⟩
end
section
variable {X:Fk}{κ:Nat}{D:Nat->Bool}{H:View}{cc:Frame}{cs:List Frame}
theorem fV {k:Nat}(hK:∀v J',WJ X κ H v J'->J' (G (cc.finish v) cs))(IH:∀k'<k,Head X κ D H cc cs k')(ne:X.Mu≠X.Wg){R:Rg}{o:Nat}{aw sv ws:Bool}{it:Nat}{z:Int}(hw:ws=decide (z≠0))
  (hR:WB (RH X o ⟨aw,sv,ws,it⟩ z) R):Sc (Jw prog X κ k (if ws then .s1 ⟨aw,sv,ws,it⟩ else .t1 ⟨aw,sv,ws,it⟩) D H) 139 BR (cc::cs) R [] [.code (cR XX),.inBlock 1,.inLoop zP,.inBlock 0,.code cG]:=by
 refine Sc.drop hR ?_;by_cases hz:z=0
 ·subst hz;have VN:ws=false:=by rw[hw];rfl
  subst VN;simp only[Bool.false_eq_true,if_false];refine .sq (.rg rfl rfl ?_);refine .m ?_;refine .i ?_ (z:=DC oM);refine .g ?_;refine .dn (.sq (.sq (.rg rfl rfl ?_)));refine .m ?_;refine .i ?_ (z:=vC oM);refine .dn (.tt rfl (.rg rfl rfl ?_));refine So.QA rfl rfl rfl nofun rfl (.mk' rfl) rfl (Jw.t1 aCg) ?_;rintro v J' ⟨k1,z1,nU,rfl,rfl⟩;refine .g ?_;refine .dn ?_;exact sP (o:=o) (q:=false) hK (fun k' h=> IH k' oM) ne rfl ⟨rfl,rfl,rfl,rfl,rfl,rfl,rfl,trivial⟩
 ·have VN:ws=true:=by rw[hw];exact decide_eq_true hz
  subst VN;simp only[if_true];refine .sq (.rg rfl rfl ?_);refine .m ?_;refine .i ?_ (z:=SC oM);refine .g ?_;refine .dn (.sq (.sq (.rg rfl rfl ?_)));refine .m ?_;refine .i ?_ (z:=CB oM);refine .dn (.ff rfl (.sp ?_));exact sP (o:=o) (q:=true) hK (fun k' h=> IH k' oM) ne hw ⟨rfl,rfl,rfl,rfl,rfl,rfl,rfl,trivial⟩
theorem L6 {o:Nat}{c:Lc}{x:Int}(hx:x=((sE o c:Nat):Int)){k:Nat}(ne:X.Mu≠X.Wg):PD (Jw prog X κ k (.c2 o c) D H) 181 [.pointer (some (muA X.Mu)),.int .i32 (o:Int),.int .i32 x] fun v J'=> ∃k' t',k'<k/\((v=.bool true/\t'=(if o%2=0/\o/4%2=0 then Th.le else if c.ws then .s1 c else .t1 c))\/(v=.bool false/\t'=Th.r3 c))/\J'=Jw prog X κ k' t' D H:=
 hx▸Jw.c2 ne m5
theorem zW {k:Nat}(hK:∀v J',WJ X κ H v J'->J' (G (cc.finish v) cs))(IH:∀k'<k,Head X κ D H cc cs k')(ne:X.Mu≠X.Wg){R:Rg}{o:Nat}{aw sv ws:Bool}{it:Nat}{z:Int}(ho:o<64)(ha:aw=true->o/2%2=1/\o/4%2=0)(hs:sv=true->aw=true)(hw:ws=decide (z≠0))
  (hR:WB (RH X o ⟨aw,sv,ws,it⟩ z) R):Sc (Jw prog X κ k (.c2 o ⟨aw,sv,ws,it⟩) D H) 139 BR (cc::cs) R [] [.code (cR BB),.inBlock 1,.inLoop zP,.inBlock 0,.code cG]:=by
 refine Sc.drop hR ?_;have key:∀(x:Int) (R':Rg),x=((sE o ⟨aw,sv,ws,it⟩:Nat):Int)->WB ((7,.int .i32 x)::RH X o ⟨aw,sv,ws,it⟩ z) R'->Sc (Jw prog X κ k (.c2 o ⟨aw,sv,ws,it⟩) D H) 139 BR (cc::cs) R' [] [.code (cR (cR (cR (cR (cR (cR BB)))))),.inBlock 1,.inLoop zP,.inBlock 0,.code cG]:=by
  intro x R' hx hR';refine Sc.drop hR' ?_;refine .sq (.rg rfl rfl ?_);refine .m ?_;refine .x .nk ?_;refine .x (.fa (zz:=gC)) ?_;refine .m ?_;refine .m ?_;refine So.QA rfl rfl rfl nofun rfl (.mk' rfl) rfl (L6 hx ne) ?_;rintro v J' ⟨k1,t,nU,hv,rfl⟩;rcases hv with ⟨rfl,rfl⟩|⟨rfl,rfl⟩
  ·by_cases h0:o%2=0/\o/4%2=0
   ·rw[if_pos h0];obtain⟨h1,h4⟩:=h0;refine .dn (.tt rfl (.sq (.sq (.rg rfl rfl ?_))));refine .m ?_;refine .i ?_ (z:=qH _ oM);refine .i ?_ (z:=vC oM);refine .dn (.tt rfl (.xt rfl ?_));exact LI hK rfl
   ·rw[if_neg h0];refine .dn (.tt rfl (.sq (.sq (.rg rfl rfl ?_))));refine .m ?_;refine .i ?_ (z:=qH _ oM);refine .i ?_ (z:=CB oM);refine .dn (.ff rfl (.sp ?_));exact fV (o:=o) hK (fun k' h=> IH k' oM) ne hw ⟨rfl,rfl,rfl,rfl,rfl,rfl,trivial⟩
  ·refine .dn (.ff rfl (.rg rfl rfl ?_));refine .m ?_;refine .x .nk ?_;refine .x (.fa (zz:=gC)) ?_;refine Jw.ldM rfl rfl rfl rfl rfl rfl rfl zO oW (fun s GB qE hf=> ⟨hd s.m ⟨aw,sv,ws,it⟩,by simp[Th.mv],(by unfold hd;split <;> rfl),fun k2 nO=> ?_⟩);refine .g ?_;refine .dn (.ib ?_);refine Sc.inLoop (by exact Jw.QG) ?_;exact Sc.drop (by exact⟨rfl,rfl,rfl,rfl,rfl,rfl,trivial⟩) (IH k2 oM s.m ⟨aw,sv,ws,it⟩ z hf.1 GB hs hw)
 rcases Nat.mod_two_eq_zero_or_one o with h1|h1
 ·rcases Nat.mod_two_eq_zero_or_one (o/4) with h4|h4
  ·cases aw with
   | false=>
    cases sv with
    | true=> exact nomatch hs rfl
    | false=>
     refine .sq (.rg rfl rfl ?_);refine .m ?_;refine .g ?_;refine .dn (.sq (.sq (.rg rfl rfl ?_)));refine .m ?_;refine .i ?_ (z:=NF _ oM);refine .i ?_ (z:=vC oM);refine .dn (.tt rfl (.rg rfl rfl ?_));refine .m ?_;refine .i ?_ (z:=CX _ oM);refine .g ?_;refine .dn (.sq (.sq (.rg rfl rfl ?_)));refine .m ?_;refine .i ?_ (z:=qH _ oM);refine .i ?_ (z:=DC oM);refine .dn (.ff rfl (.sp (.sq (.sq (.rg rfl rfl ?_)))));refine .m ?_;refine .m ?_;refine .sk ?_;refine .sk ?_;refine .sk ?_;refine .x .pk ?_;refine .dn (.ff rfl (.sp (.sq (.sq (.rg rfl rfl ?_)))));refine .m ?_;refine .dn (.ff rfl (.sp ?_));refine key _ _ ?_ ⟨rfl,rfl,rfl,rfl,rfl,rfl,rfl,trivial⟩;simp[sE,h1,h4] <;> omega
   | true=>
    cases sv with
    | true=>
     refine .sq (.rg rfl rfl ?_);refine .m ?_;refine .g ?_;refine .dn (.sq (.sq (.rg rfl rfl ?_)));refine .m ?_;refine .i ?_ (z:=NF _ oM);refine .i ?_ (z:=vC oM);refine .dn (.tt rfl (.rg rfl rfl ?_));refine .m ?_;refine .i ?_ (z:=CX _ oM);refine .g ?_;refine .dn (.sq (.sq (.rg rfl rfl ?_)));refine .m ?_;refine .i ?_ (z:=qH _ oM);refine .i ?_ (z:=DC oM);refine .dn (.ff rfl (.sp (.sq (.sq (.rg rfl rfl ?_)))));refine .m ?_;refine .m ?_;refine .m ?_;refine .i ?_ (z:=EV _ oM);refine .i ?_ (z:=DC oM);refine .x .pk ?_;refine .dn (.ff rfl (.sp (.sq (.sq (.rg rfl rfl ?_)))));refine .m ?_;refine .dn ?_;obtain⟨g2, -⟩:=ha rfl;refine .tt rfl (.sq (.sq (.rg rfl rfl ?_)));refine .m ?_;refine .i ?_ (z:=yM _ oM);refine .i ?_ (z:=CB oM);refine .dn (.ff rfl (.sp (.rg rfl rfl ?_)));refine .m ?_;refine .i ?_ (z:=ZJ _ oM);refine .g ?_;refine .dn ?_;refine key _ _ ?_ ⟨rfl,rfl,rfl,rfl,rfl,rfl,rfl,trivial⟩;simp[sE,h1,h4] <;> omega
    | false=>
     refine .sq (.rg rfl rfl ?_);refine .m ?_;refine .g ?_;refine .dn (.sq (.sq (.rg rfl rfl ?_)));refine .m ?_;refine .i ?_ (z:=NF _ oM);refine .i ?_ (z:=vC oM);refine .dn (.tt rfl (.rg rfl rfl ?_));refine .m ?_;refine .i ?_ (z:=CX _ oM);refine .g ?_;refine .dn (.sq (.sq (.rg rfl rfl ?_)));refine .m ?_;refine .i ?_ (z:=qH _ oM);refine .i ?_ (z:=DC oM);refine .dn (.ff rfl (.sp (.sq (.sq (.rg rfl rfl ?_)))));refine .m ?_;refine .m ?_;refine .sk ?_;refine .sk ?_;refine .sk ?_;refine .x .pk ?_;refine .dn (.ff rfl (.sp (.sq (.sq (.rg rfl rfl ?_)))));refine .m ?_;refine .dn ?_;obtain⟨g2, -⟩:=ha rfl;refine .tt rfl (.sq (.sq (.rg rfl rfl ?_)));refine .m ?_;refine .i ?_ (z:=yM _ oM);refine .i ?_ (z:=CB oM);refine .dn (.ff rfl (.sp (.rg rfl rfl ?_)));refine .m ?_;refine .i ?_ (z:=ZJ _ oM);refine .g ?_;refine .dn ?_;refine key _ _ ?_ ⟨rfl,rfl,rfl,rfl,rfl,rfl,rfl,trivial⟩;simp[sE,h1,h4] <;> omega
  ·cases aw with
   | true=> exact absurd (ha rfl).2 oM
   | false=>
    cases sv with
    | true=> exact nomatch hs rfl
    | false=>
     refine .sq (.rg rfl rfl ?_);refine .m ?_;refine .g ?_;refine .dn (.sq (.sq (.rg rfl rfl ?_)));refine .m ?_;refine .i ?_ (z:=NF _ oM);refine .i ?_ (z:=CB oM);refine .dn (.ff rfl (.sp (.sq (.sq (.rg rfl rfl ?_)))));refine .m ?_;refine .i ?_ (z:=qH _ oM);refine .i ?_ (z:=SC oM);refine .dn (.tt rfl (.rg rfl rfl ?_));refine .m ?_;refine .i ?_ (z:=zR _ oM);refine .g ?_;refine .dn (.sq (.sq (.rg rfl rfl ?_)));refine .m ?_;refine .m ?_;refine .sk ?_;refine .sk ?_;refine .sk ?_;refine .x .pk ?_;refine .dn (.ff rfl (.sp (.sq (.sq (.rg rfl rfl ?_)))));refine .m ?_;refine .dn (.ff rfl (.sp ?_));refine key _ _ ?_ ⟨rfl,rfl,rfl,rfl,rfl,rfl,rfl,trivial⟩;simp[sE,h1,h4] <;> omega
 ·rcases Nat.mod_two_eq_zero_or_one (o/4) with h4|h4
  ·cases aw with
   | false=>
    cases sv with
    | true=> exact nomatch hs rfl
    | false=>
     refine .sq (.rg rfl rfl ?_);refine .m ?_;refine .g ?_;refine .dn (.sq (.sq (.rg rfl rfl ?_)));refine .m ?_;refine .i ?_ (z:=NF _ oM);refine .i ?_ (z:=vC oM);refine .dn (.tt rfl (.rg rfl rfl ?_));refine .m ?_;refine .i ?_ (z:=CX _ oM);refine .g ?_;refine .dn (.sq (.sq (.rg rfl rfl ?_)));refine .m ?_;refine .i ?_ (z:=qH _ oM);refine .i ?_ (z:=SC oM);refine .dn (.tt rfl (.rg rfl rfl ?_));refine .m ?_;refine .i ?_ (z:=zR _ oM);refine .g ?_;refine .dn (.sq (.sq (.rg rfl rfl ?_)));refine .m ?_;refine .m ?_;refine .sk ?_;refine .sk ?_;refine .sk ?_;refine .x .pk ?_;refine .dn (.ff rfl (.sp (.sq (.sq (.rg rfl rfl ?_)))));refine .m ?_;refine .dn (.ff rfl (.sp ?_));refine key _ _ ?_ ⟨rfl,rfl,rfl,rfl,rfl,rfl,rfl,trivial⟩;simp[sE,h1,h4] <;> omega
   | true=>
    cases sv with
    | true=>
     refine .sq (.rg rfl rfl ?_);refine .m ?_;refine .g ?_;refine .dn (.sq (.sq (.rg rfl rfl ?_)));refine .m ?_;refine .i ?_ (z:=NF _ oM);refine .i ?_ (z:=vC oM);refine .dn (.tt rfl (.rg rfl rfl ?_));refine .m ?_;refine .i ?_ (z:=CX _ oM);refine .g ?_;refine .dn (.sq (.sq (.rg rfl rfl ?_)));refine .m ?_;refine .i ?_ (z:=qH _ oM);refine .i ?_ (z:=SC oM);refine .dn (.tt rfl (.rg rfl rfl ?_));refine .m ?_;refine .i ?_ (z:=zR _ oM);refine .g ?_;refine .dn (.sq (.sq (.rg rfl rfl ?_)));refine .m ?_;refine .m ?_;refine .m ?_;refine .i ?_ (z:=EV _ oM);refine .i ?_ (z:=SC oM);refine .x .pk ?_;refine .dn (.tt rfl (.rg rfl rfl ?_));refine .m ?_;refine .i ?_ (z:=aEA _ oM);refine .g ?_;refine .dn (.sq (.sq (.rg rfl rfl ?_)));refine .m ?_;refine .dn ?_;obtain⟨g2, -⟩:=ha rfl;refine .tt rfl (.sq (.sq (.rg rfl rfl ?_)));refine .m ?_;refine .i ?_ (z:=yM _ oM);refine .i ?_ (z:=CB oM);refine .dn (.ff rfl (.sp (.rg rfl rfl ?_)));refine .m ?_;refine .i ?_ (z:=ZJ _ oM);refine .g ?_;refine .dn ?_;refine key _ _ ?_ ⟨rfl,rfl,rfl,rfl,rfl,rfl,rfl,trivial⟩;simp[sE,h1,h4] <;> omega
    | false=>
     refine .sq (.rg rfl rfl ?_);refine .m ?_;refine .g ?_;refine .dn (.sq (.sq (.rg rfl rfl ?_)));refine .m ?_;refine .i ?_ (z:=NF _ oM);refine .i ?_ (z:=vC oM);refine .dn (.tt rfl (.rg rfl rfl ?_));refine .m ?_;refine .i ?_ (z:=CX _ oM);refine .g ?_;refine .dn (.sq (.sq (.rg rfl rfl ?_)));refine .m ?_;refine .i ?_ (z:=qH _ oM);refine .i ?_ (z:=SC oM);refine .dn (.tt rfl (.rg rfl rfl ?_));refine .m ?_;refine .i ?_ (z:=zR _ oM);refine .g ?_;refine .dn (.sq (.sq (.rg rfl rfl ?_)));refine .m ?_;refine .m ?_;refine .sk ?_;refine .sk ?_;refine .sk ?_;refine .x .pk ?_;refine .dn (.ff rfl (.sp (.sq (.sq (.rg rfl rfl ?_)))));refine .m ?_;refine .dn ?_;obtain⟨g2, -⟩:=ha rfl;refine .tt rfl (.sq (.sq (.rg rfl rfl ?_)));refine .m ?_;refine .i ?_ (z:=yM _ oM);refine .i ?_ (z:=CB oM);refine .dn (.ff rfl (.sp (.rg rfl rfl ?_)));refine .m ?_;refine .i ?_ (z:=ZJ _ oM);refine .g ?_;refine .dn ?_;refine key _ _ ?_ ⟨rfl,rfl,rfl,rfl,rfl,rfl,rfl,trivial⟩;simp[sE,h1,h4] <;> omega
  ·cases aw with
   | true=> exact absurd (ha rfl).2 oM
   | false=>
    cases sv with
    | true=> exact nomatch hs rfl
    | false=>
     refine .sq (.rg rfl rfl ?_);refine .m ?_;refine .g ?_;refine .dn (.sq (.sq (.rg rfl rfl ?_)));refine .m ?_;refine .i ?_ (z:=NF _ oM);refine .i ?_ (z:=CB oM);refine .dn (.ff rfl (.sp (.sq (.sq (.rg rfl rfl ?_)))));refine .m ?_;refine .i ?_ (z:=qH _ oM);refine .i ?_ (z:=SC oM);refine .dn (.tt rfl (.rg rfl rfl ?_));refine .m ?_;refine .i ?_ (z:=zR _ oM);refine .g ?_;refine .dn (.sq (.sq (.rg rfl rfl ?_)));refine .m ?_;refine .m ?_;refine .sk ?_;refine .sk ?_;refine .sk ?_;refine .x .pk ?_;refine .dn (.ff rfl (.sp (.sq (.sq (.rg rfl rfl ?_)))));refine .m ?_;refine .dn (.ff rfl (.sp ?_));refine key _ _ ?_ ⟨rfl,rfl,rfl,rfl,rfl,rfl,rfl,trivial⟩;simp[sE,h1,h4] <;> omega
end
section
variable {X:Fk}{κ:Nat}{D:Nat->Bool}{H:View}{cc:Frame}{cs:List Frame}
noncomputable def C7:Code:=cT (cR (cL BB))
theorem NG {k:Nat}(IH:∀k'<k,Head X κ D H cc cs k'){R:Rg}{o:Nat}{aw sv ws:Bool}{it:Nat}{z:Int}(hw:ws=decide (z≠0))(OL:it<4)
  (hR:WB (RH X o ⟨aw,sv,ws,it⟩ z) R):Sc (Jw prog X κ k (.ds ⟨aw,sv,ws,it⟩) D H) 139 BR (cc::cs) R [] [.code (cR C7),.code (cR BB),.inBlock 1,.inLoop zP,.inBlock 0,.code cG]:=by
 refine Sc.drop hR ?_;refine .sq (.rg rfl rfl ?_);refine So.QA rfl rfl rfl nofun rfl (.mk' rfl) rfl (Jw.ds aD2 rfl) ?_;rintro v J' ⟨k1,t,nU,⟨rfl,rfl⟩,rfl⟩;have aCl:gA .add .i64 (it:Int) 1=some (.int .i64 ((it+1:Nat):Int)):=by
  rw[tC oM oM]
  congr 2
 refine .dn (.sq (.rg rfl rfl ?_));refine .m ?_;refine .i ?_ (z:=by assumption);refine .g ?_;refine .dn (.sq (.rg rfl rfl ?_));refine .m ?_;refine .x .nk ?_;refine .x (.fa (zz:=gC)) ?_;refine Jw.ldM rfl rfl rfl rfl rfl rfl rfl zO oW (fun s GB qE hf=> ⟨hd s.m ⟨aw,sv,ws,it+1⟩,by simp[Th.mv],(by unfold hd;split <;> rfl),fun k2 nO=> ?_⟩);refine .g ?_;refine .dn (.xt rfl ?_);refine Sc.inLoop (by exact Jw.QG) ?_;exact Sc.drop (by exact⟨rfl,rfl,rfl,rfl,rfl,rfl,trivial⟩) (IH k2 oM s.m ⟨aw,sv,ws,it+1⟩ z hf.1 GB qE.1 hw)
theorem aBU {o:Nat}{c:Lc}{x:Int}(hx:x=((o+2:Nat):Int)){k:Nat}(ne:X.Mu≠X.Wg):PD (Jw prog X κ k (.c1 o c) D H) 181 [.pointer (some (muA X.Mu)),.int .i32 (o:Int),.int .i32 x] fun v J'=> ∃k' t',k'<k/\((v=.bool true/\t'=Th.ds { c with aw:=true })\/(v=.bool false/\t'=Th.ds c))/\J'=Jw prog X κ k' t' D H:=
 hx▸Jw.c1 ne m5
theorem SX(hK:∀v J',WJ X κ H v J'->J' (G (cc.finish v) cs))(ne:X.Mu≠X.Wg)(k:Nat):Head X κ D H cc cs k:=by
 induction k using Nat.strongRecOn with
 | ind k IH=>
  rintro o ⟨aw,sv,ws,it⟩ z ho ha hs hw;simp only at ha hs hw;by_cases h5:o%2=1/\o/4%2=0
  ·have hh : hd o ⟨aw,sv,ws,it⟩=.sq o ⟨aw,sv,ws,it⟩:=if_pos h5;obtain⟨h1,h4⟩:=h5;rw[hh];refine Sc.block Jw.QG (Sc.seq Jw.QG ?_);refine .sq (.rg rfl rfl ?_);refine .m ?_;refine .i ?_ (z:=qH _ oM);refine .i ?_ (z:=vC oM);refine .m ?_;refine .m ?_
   skip
   refine So.QA rfl rfl rfl nofun rfl (.mk' rfl) rfl (Jw.sq aD1) ?_;rintro v J' ⟨k1,t,nU,⟨rfl,OL,rfl⟩|⟨rfl,rfl⟩,rfl⟩
   ·refine .x .pk ?_;refine .dn (.tt rfl ?_);rcases Nat.mod_two_eq_zero_or_one (o/2) with h2|h2
    ·cases aw with
     | true=> exact absurd (ha rfl).1 oM
     | false=>
      by_cases h8:o/8=0
      ·rw[if_neg oM];refine .sq (.sq (.rg rfl rfl ?_));refine .m ?_;refine .x .nt ?_;refine .m ?_;refine .m ?_;refine .i ?_ (z:=yM _ oM);refine .i ?_ (z:=vC oM);refine .x .pk ?_;refine .m ?_;refine .m ?_;refine .x (oC.shift rfl rfl rfl oM (by exact fJ _ oM)) ?_;refine .i ?_ (z:=DC oM);refine .x .pk ?_;refine .m ?_;refine .sk ?_;refine .sk ?_;refine .sk ?_;refine .sk ?_;refine .sk ?_;refine .sk ?_;refine .sk ?_;refine .x .pk ?_;refine .dn (.ff rfl (.sp ?_));exact NG (o:=o) (fun k' h=> IH k' oM) hw OL ⟨rfl,rfl,rfl,rfl,rfl,rfl,trivial⟩
      ·rw[if_pos ⟨rfl,h2,h8⟩];refine .sq (.sq (.rg rfl rfl ?_));refine .m ?_;refine .x .nt ?_;refine .m ?_;refine .m ?_;refine .i ?_ (z:=yM _ oM);refine .i ?_ (z:=vC oM);refine .x .pk ?_;refine .m ?_;refine .m ?_;refine .x (oC.shift rfl rfl rfl oM (by exact fJ _ oM)) ?_;refine .i ?_ (z:=SC oM);refine .x .pk ?_;refine .m ?_;refine .m ?_;refine .x .nk ?_;refine .x (.fa (zz:=gC)) ?_;refine .m ?_;refine .m ?_;refine .i ?_ (z:=aCU _ oM)
       skip
       refine So.QA rfl rfl rfl nofun rfl (.mk' rfl) rfl (aBU (by congr 1;omega) ne) ?_;rintro v J' ⟨k2,t,nO,⟨rfl,rfl⟩|⟨rfl,rfl⟩,rfl⟩
       ·refine .x .pk ?_;refine .dn (.tt rfl (.rg rfl rfl ?_));refine .g ?_;refine .dn ?_;exact NG (o:=o) (fun k' h=> IH k' oM) hw OL ⟨rfl,rfl,rfl,rfl,rfl,rfl,trivial⟩
       ·refine .x .pk ?_;refine .dn (.ff rfl (.sp ?_));exact NG (o:=o) (fun k' h=> IH k' oM) hw OL ⟨rfl,rfl,rfl,rfl,rfl,rfl,trivial⟩
    ·rw[if_neg oM];cases aw with
     | true=>
      refine .sq (.sq (.rg rfl rfl ?_));refine .m ?_;refine .x .nt ?_;refine .m ?_;refine .sk ?_;refine .sk ?_;refine .sk ?_;refine .x .pk ?_;refine .m ?_;refine .sk ?_;refine .sk ?_;refine .sk ?_;refine .x .pk ?_;refine .m ?_;refine .sk ?_;refine .sk ?_;refine .sk ?_;refine .sk ?_;refine .sk ?_;refine .sk ?_;refine .sk ?_;refine .x .pk ?_;refine .dn (.ff rfl (.sp ?_));exact NG (o:=o) (fun k' h=> IH k' oM) hw OL ⟨rfl,rfl,rfl,rfl,rfl,rfl,trivial⟩
     | false=>
      refine .sq (.sq (.rg rfl rfl ?_));refine .m ?_;refine .x .nt ?_;refine .m ?_;refine .m ?_;refine .i ?_ (z:=yM _ oM);refine .i ?_ (z:=CB oM);refine .x .pk ?_;refine .m ?_;refine .sk ?_;refine .sk ?_;refine .sk ?_;refine .x .pk ?_;refine .m ?_;refine .sk ?_;refine .sk ?_;refine .sk ?_;refine .sk ?_;refine .sk ?_;refine .sk ?_;refine .sk ?_;refine .x .pk ?_;refine .dn (.ff rfl (.sp ?_));exact NG (o:=o) (fun k' h=> IH k' oM) hw OL ⟨rfl,rfl,rfl,rfl,rfl,rfl,trivial⟩
   ·refine .x .pk ?_;refine .dn (.ff rfl (.sp ?_));exact zW hK (fun k' h=> IH k' oM) ne ho ha hs hw ⟨rfl,rfl,rfl,rfl,rfl,rfl,trivial⟩
  ·have hh:hd o ⟨aw,sv,ws,it⟩=.c2 o ⟨aw,sv,ws,it⟩:=if_neg h5;rw[hh];refine Sc.block Jw.QG (Sc.seq Jw.QG ?_);refine .sq (.rg rfl rfl ?_);refine .m ?_;refine .i ?_ (z:=qH _ oM);refine .i ?_ (z:=CB oM);refine .m ?_;refine .sk ?_;refine .sk ?_;refine .x .pk ?_;refine .dn (.ff rfl (.sp ?_));exact zW hK (fun k' h=> IH k' oM) ne ho ha hs hw ⟨rfl,rfl,rfl,rfl,rfl,rfl,trivial⟩
theorem aBt {k:Nat}(ne:X.Mu≠X.Wg):PD (Jw prog X κ k .r0 D H) 182 [.pointer (some ⟨X.Mu,0,none⟩)] (WJ X κ H):=by
 refine NJ.at (by exact Jw.RG rfl) aB5 (NJ.enter (vs:= [.pointer (some ⟨X.Mu,0,none⟩)]) func182 rfl ntmps182 (Nat.le_of_ble_eq_true rfl) fun c cs hK=> ?_);refine .sq (.rg rfl rfl ?_);refine .g ?_;refine .dn (.sq (.rg rfl rfl ?_));refine .g ?_;refine .dn (.sq (.rg rfl rfl ?_));refine .g ?_;refine .dn (.sq (.rg rfl rfl ?_));refine .g ?_;refine .dn (.sq (.rg rfl rfl ?_));refine .m ?_;refine .x .nk ?_;refine .x (.fa (zz:=gC)) ?_;refine Jw.ldM rfl rfl rfl rfl rfl rfl rfl zO oW (fun s GB qE hf=> ⟨hd s.m ⟨false,false,false,0⟩,by simp[Th.mv],(by unfold hd;split <;> rfl),fun k2 nO=> ?_⟩);refine .g ?_;refine .dn (.sq (.bl ?_));refine Sc.loop (by exact Jw.QG) ?_;exact Sc.drop (by exact⟨rfl,rfl,rfl,rfl,rfl,rfl,trivial⟩) (SX hK ne k2 s.m ⟨false,false,false,0⟩ 0 hf.1 (fun h=> nomatch h) (fun h=> nomatch h) rfl)
theorem s6 {k:Nat}(ne:X.Mu≠X.Wg):PD (Jw prog X κ k .ld D H) 153 [.pointer (some ⟨X.Mu,0,none⟩)] (WJ X κ H):=by
 refine NJ.at (by exact Jw.RG rfl) aB2 (NJ.enter (vs:= [.pointer (some ⟨X.Mu,0,none⟩)]) func153 rfl ntmps153 (Nat.le_of_ble_eq_true rfl) fun c cs hK=> ?_);refine .sq (.rg rfl rfl ?_);refine So.QA rfl rfl rfl nofun rfl (.mk' rfl) rfl (Jw.ld RY) ?_;rintro v J' ⟨k1,t,nU,⟨rfl,rfl⟩,rfl⟩;refine .dn (.sq (.sq (.rg rfl rfl ?_)));refine .m ?_;refine .x .nk ?_;refine .x (.fa (zz:=gC)) ?_;refine So.QA rfl rfl rfl nofun rfl (.mk' rfl) rfl (Jw.l0 ne m5) ?_;rintro v J' ⟨k2,t,nO,⟨rfl,rfl⟩|⟨rfl,rfl⟩,rfl⟩
 ·refine .dn (.tt rfl (.sq (.tt rfl (.sq (.rg rfl rfl ?_)))));refine So.QA rfl rfl rfl nofun rfl (.mk' rfl) rfl (Jw.le gO) ?_;rintro v J' ⟨k3,t,K8,⟨rfl,rfl⟩,rfl⟩;refine .dn ?_;have SJ:=eV X;refine .rg rfl rfl ?_;refine .m ?_;refine .x (oC.raw rfl rfl sV qI kV (by assumption)) ?_;refine So.QA rfl rfl rfl nofun rfl (.mk' rfl) rfl (Jw.la j5) ?_;rintro v J' ⟨rfl,k',D',o, -,h1,h2,rfl⟩;refine .dn ?_;refine Sc.kC (by exact Jw.RG rfl) rfl (Sb.leave (by exact Jw.RG rfl) func153 rfl (by exact .inl ⟨results153,rfl⟩) ?_);exact hK _ _ ⟨rfl,k',D',o,h1,h2,rfl⟩
 ·refine .dn (.ff rfl (.sp (.rg rfl rfl ?_)));refine .m ?_;refine So.QA rfl rfl rfl nofun rfl (.mk' rfl) rfl (aBt ne) ?_;rintro v J' ⟨rfl,k',D',o,h1,h2,rfl⟩;refine .dn ?_;refine Sc.over (by exact Jw.RG rfl) rfl (Sb.leave (by exact Jw.RG rfl) func153 rfl (by exact .inl ⟨results153,rfl⟩) ?_);exact hK _ _ ⟨rfl,k',D',o,h1,h2,rfl⟩
theorem aAq {k:Nat}(ne:X.Mu≠X.Wg):PD (Jw prog X κ k .ld D H) 105 [.pointer (some ⟨X.Mu,0,none⟩)] (WJ X κ H):=by
 refine NJ.at (by exact Jw.RG rfl) aBV (NJ.enter (vs:= [.pointer (some ⟨X.Mu,0,none⟩)]) func105 rfl ntmps105 (Nat.le_of_ble_eq_true rfl) fun c cs hK=> ?_);refine .rg rfl rfl ?_;refine .m ?_;refine .x .nk ?_;refine .x (.fa (zz:=RR)) ?_;refine So.QA rfl rfl rfl nofun rfl (.mk' rfl) rfl (s6 ne) ?_;rintro v J' ⟨rfl,k',D',o,h1,h2,rfl⟩;refine .dn ?_;refine Sc.over (by exact Jw.RG rfl) rfl (Sb.leave (by exact Jw.RG rfl) func105 rfl (by exact .inl ⟨results105,rfl⟩) ?_);exact hK _ _ ⟨rfl,k',D',o,h1,h2,rfl⟩
end
section
variable {X:Fk}{κ:Nat}{D:Nat->Bool}{H:View}{cc:Frame}{cs:List Frame}
def aBQ(X:Fk)(κ:Nat)(D:Nat->Bool)(H:View)(v:Value)(J':Goroutine->Prop):Prop:=v=.tuple #[]/\∃k',J'=Jw prog X κ k' .ue D H
noncomputable def C6:Code:=cR (cT (cR (cR (VG Tryz.f184))))
noncomputable def aBI:Code:=cB (cB C6)
abbrev aDF:FB:=⟨184,.normal,none⟩
theorem aCS:(prog.funcs[184]?).any (·.norace)=true:=by kernel_rfl
theorem aCR:(prog.funcs[154]?).any (·.norace)=true:=by kernel_rfl
def Y8(n:Nat):Th:=if n/8=0\/n%8≠0 then .ue else .uc n
def aBJ(X:Fk)(κ:Nat)(D:Nat->Bool)(H:View)(cc:Frame)(cs:List Frame)(k:Nat):Prop:=
 ∀(n:Nat) (R:Rg),n<64->WB [(0,.pointer (some ⟨X.Mu,0,none⟩)),(4,.int .i32 (n:Int))] R->Sc (Jw prog X κ k (Y8 n) D H) 43 aDF (cc::cs) R [] [.code aBI,.inLoop aBI,.inBlock 0]
theorem aDm {o:Nat}{x:Int}(hx:x=((o-6:Nat):Int)){k:Nat}(ne:X.Mu≠X.Wg):PD (Jw prog X κ k (.uc o) D H) 181 [.pointer (some (muA X.Mu)),.int .i32 (o:Int),.int .i32 x] fun v J'=> ∃k' t',k'<k/\((v=.bool true/\t'=Th.us false)\/(v=.bool false/\t'=Th.ux))/\J'=Jw prog X κ k' t' D H:=
 hx▸Jw.uc ne m5
theorem R1(hK:∀v J',aBQ X κ D H v J'->J' (G (cc.finish v) cs))(ne:X.Mu≠X.Wg)(k:Nat):aBJ X κ D H cc cs k:=by
 induction k using Nat.strongRecOn with
 | ind k IH=>
  intro n R hn hR;refine Sc.drop hR ?_;by_cases h0:n/8=0
  ·have ht:Y8 n=.ue:=if_pos (.inl h0);rw[ht];refine .bl (.sq (.sq (.rg rfl rfl ?_)));refine .m ?_;refine .x (oC.shift rfl rfl rfl oM (by exact fJ _ oM)) ?_;refine .i ?_ (z:=vC oM);refine .m ?_;refine .sk ?_;refine .sk ?_;refine .sk ?_;refine .x .pk ?_;refine .dn (.tt rfl ?_);refine Sc.kC (by exact Jw.RG rfl) rfl (Sb.leave (by exact Jw.RG rfl) func184 rfl (by exact .inl ⟨results184,rfl⟩) ?_);exact hK _ _ ⟨rfl,k,rfl⟩
  ·by_cases h8:n%8=0
   ·have ht:Y8 n=.uc n:=if_neg oM;rw[ht];refine .bl (.sq (.sq (.rg rfl rfl ?_)));refine .m ?_;refine .x (oC.shift rfl rfl rfl oM (by exact fJ _ oM)) ?_;refine .i ?_ (z:=CB oM);refine .m ?_;refine .m ?_;refine .i ?_ (z:=S7 _ oM);refine .i ?_ (z:=DC oM);refine .x .pk ?_;refine .dn (.ff rfl (.sp (.sq (.rg rfl rfl ?_))));refine .m ?_;refine .i ?_ (z:=aDl _ oM);refine .i ?_ (z:=aCU _ oM);refine .g ?_;refine .dn (.sq (.sq (.rg rfl rfl ?_)));refine .m ?_;refine .x .nk ?_;refine .x (.fa (zz:=gC)) ?_;refine .m ?_;refine .m ?_;refine So.QA rfl rfl rfl nofun rfl (.mk' rfl) rfl (aDm (by congr 1;omega) ne) ?_;rintro v J' ⟨k1,t,nU,⟨rfl,rfl⟩|⟨rfl,rfl⟩,rfl⟩
    ·refine .dn (.tt rfl (.sq (.rg rfl rfl ?_)));refine .m ?_;refine .x .nk ?_;refine .x (.fa (zz:=OM)) ?_;refine So.QA rfl rfl rfl nofun rfl (.mk' rfl) rfl (Jw.us (vs:= [.pointer (some ⟨X.Mu,1,none⟩),.bool false,.int .i64 2]) ne aCh rfl) ?_;rintro v J' ⟨k2,t,nO,⟨rfl,rfl⟩,rfl⟩;refine .dn ?_;refine Sc.kC (by exact Jw.RG rfl) rfl (Sb.leave (by exact Jw.RG rfl) func184 rfl (by exact .inl ⟨results184,rfl⟩) ?_);exact hK _ _ ⟨rfl,k2,rfl⟩
    ·refine .dn (.ff rfl (.sp (.rg rfl rfl ?_)));refine .m ?_;refine .x .nk ?_;refine .x (.fa (zz:=gC)) ?_;refine Jw.ldM rfl rfl rfl rfl rfl rfl rfl zO aCS (fun s GB qE hf=> ⟨Y8 s.m,by simp[Th.mv,Y8],(by unfold Y8;split <;> rfl),fun k2 nO=> ?_⟩);refine .g ?_;refine .dn (.ib ?_);refine Sc.inLoop (by exact Jw.QG) ?_;exact IH k2 oM s.m _ hf.1 ⟨rfl,rfl,trivial⟩
   ·have ht:Y8 n=.ue:=if_pos (.inr h8);rw[ht];refine .bl (.sq (.sq (.rg rfl rfl ?_)));refine .m ?_;refine .x (oC.shift rfl rfl rfl oM (by exact fJ _ oM)) ?_;refine .i ?_ (z:=CB oM);refine .m ?_;refine .m ?_;refine .i ?_ (z:=S7 _ oM);refine .i ?_ (z:=SC oM);refine .x .pk ?_;refine .dn (.tt rfl ?_);refine Sc.kC (by exact Jw.RG rfl) rfl (Sb.leave (by exact Jw.RG rfl) func184 rfl (by exact .inl ⟨results184,rfl⟩) ?_);exact hK _ _ ⟨rfl,k,rfl⟩
theorem aDn {k n:Nat}(hn:n<64)(h1:n%2=0)(ne:X.Mu≠X.Wg):PD (Jw prog X κ k (if n/4%2=1 then .us true else Y8 n) D H) 184 [.pointer (some ⟨X.Mu,0,none⟩),.int .i32 (n:Int)] (aBQ X κ D H):=by
 by_cases h4:n/4%2=1
 ·rw[if_pos h4];refine NJ.at (by exact Jw.RG rfl) Z7 (NJ.enter (vs:= [.pointer (some ⟨X.Mu,0,none⟩),.int .i32 (n:Int)]) func184 rfl ntmps184 (Nat.le_of_ble_eq_true rfl) fun c cs hK=> ?_);refine .sq (.sq (.rg rfl rfl ?_));refine .m ?_;refine .i ?_ (z:=Q7 _ oM);refine .i ?_ (z:=EV _ oM);refine .i ?_ (z:=CB oM);refine .dn (.ff rfl (.sp (.sq (.rg rfl rfl ?_))));refine .m ?_;refine .i ?_ (z:=NF _ oM);refine .i ?_ (z:=CB oM);refine .dn (.ff rfl (.rg rfl rfl ?_));refine .m ?_;refine .x .nk ?_;refine .x (.fa (zz:=OM)) ?_;refine So.QA rfl rfl rfl nofun rfl (.mk' rfl) rfl (Jw.us (vs:= [.pointer (some ⟨X.Mu,1,none⟩),.bool true,.int .i64 2]) ne aCh rfl) ?_;rintro v J' ⟨k2,t,nO,⟨rfl,rfl⟩,rfl⟩;refine .dn ?_;refine Sc.over (by exact Jw.RG rfl) rfl (Sb.leave (by exact Jw.RG rfl) func184 rfl (by exact .inl ⟨results184,rfl⟩) ?_);exact hK _ _ ⟨rfl,k2,rfl⟩
 ·rw[if_neg h4];refine NJ.at (by exact Jw.QG) Z7 (NJ.enter (vs:= [.pointer (some ⟨X.Mu,0,none⟩),.int .i32 (n:Int)]) func184 rfl ntmps184 (Nat.le_of_ble_eq_true rfl) fun c cs hK=> ?_);refine .sq (.sq (.rg rfl rfl ?_));refine .m ?_;refine .i ?_ (z:=Q7 _ oM);refine .i ?_ (z:=EV _ oM);refine .i ?_ (z:=CB oM);refine .dn (.ff rfl (.sp (.sq (.rg rfl rfl ?_))));refine .m ?_;refine .i ?_ (z:=NF _ oM);refine .i ?_ (z:=vC oM);refine .dn (.tt rfl (.sq (.rg rfl rfl ?_)));refine .m ?_;refine .g ?_;refine .dn (.bl ?_);refine Sc.loop (by exact Jw.QG) ?_;exact R1 hK ne k n _ hn ⟨rfl,rfl,trivial⟩
def C4(X:Fk)(κ:Nat)(D:Nat->Bool)(H:View)(v:Value)(J':Goroutine->Prop):Prop:=v=.tuple #[]/\∃k',J'=Jw prog X κ k' .wr D H
theorem tX {k:Nat}{o:Obj}(ne:X.Mu≠X.Wg)(hC:H X.C=none)(hG:X.GI (KL D κ) o):PD (Jw prog X κ k .up D (H.put X.C (true,o))) 154 [.pointer (some ⟨X.Mu,0,none⟩)] (C4 X κ D H):=by
 refine NJ.at (by exact Jw.RG rfl) aB3 (NJ.enter (vs:= [.pointer (some ⟨X.Mu,0,none⟩)]) func154 rfl ntmps154 (Nat.le_of_ble_eq_true rfl) fun c cs hK=> ?_);refine .sq (.tt rfl (.sq (.rg rfl rfl ?_)));refine .m ?_;refine .x .nk ?_;refine .x (.fa (zz:=gC)) ?_;refine Jw.ldM rfl rfl rfl rfl rfl rfl rfl zO aCR (fun s GB qE hf=> ⟨.ur,by simp[Th.mv],rfl,fun k1 nU=> ?_⟩);refine .dn ?_;have SJ:=eV X;refine .sq (.rg rfl rfl ?_);refine .m ?_;refine .x (oC.raw rfl rfl sV qI kV (by assumption)) ?_;refine So.QA rfl rfl rfl nofun rfl (.mk' rfl) rfl (Jw.ur aCd hC hG) ?_;rintro v J' ⟨rfl,k2,nO,rfl⟩;refine .dn (.rg rfl rfl ?_);refine So.QA rfl rfl rfl nofun rfl (.mk' rfl) rfl (Jw.ud RY) ?_;rintro v J' ⟨k3,t,K8,⟨rfl,rfl⟩,rfl⟩;refine .dn (.sq (.rg rfl rfl ?_));refine .m ?_;refine .x .nk ?_;refine .x (.fa (zz:=gC)) ?_;refine So.QA rfl rfl rfl nofun rfl (.mk' rfl) rfl (Jw.u0 ne p5) ?_;rintro v J' ⟨k4,t,hk4,⟨m,hm,h1,rfl,rfl⟩,rfl⟩;by_cases e:m=1
 ·rw[if_pos e];refine .g ?_;refine .dn (.sq (.sq (.rg rfl rfl ?_)));refine .m ?_;refine .i ?_ (z:=DC oM);refine .dn (.ff rfl (.sp (.rg rfl rfl ?_)));refine So.QA rfl rfl rfl nofun rfl (.mk' rfl) rfl (Jw.ue gO) ?_;rintro v J' ⟨k5,t,hk5,⟨rfl,rfl⟩,rfl⟩;refine .dn ?_;refine Sc.over (by exact Jw.RG rfl) rfl (Sb.leave (by exact Jw.RG rfl) func154 rfl (by exact .inl ⟨results154,rfl⟩) ?_);exact hK _ _ ⟨rfl,k5,rfl⟩
 ·rw[if_neg e];refine .g ?_;refine .dn (.sq (.sq (.rg rfl rfl ?_)));refine .m ?_;refine .i ?_ (z:=SC oM);refine .dn (.tt rfl (.rg rfl rfl ?_));refine .m ?_;refine .m ?_;refine So.QA rfl rfl rfl nofun rfl (.mk' rfl) rfl (aDn (n:=m-1) oM oM ne) ?_;rintro v J' ⟨rfl,k5,rfl⟩;refine .dn (.rg rfl rfl ?_);refine So.QA rfl rfl rfl nofun rfl (.mk' rfl) rfl (Jw.ue gO) ?_;rintro v J' ⟨k6,t,hk6,⟨rfl,rfl⟩,rfl⟩;refine .dn ?_;refine Sc.over (by exact Jw.RG rfl) rfl (Sb.leave (by exact Jw.RG rfl) func154 rfl (by exact .inl ⟨results154,rfl⟩) ?_);exact hK _ _ ⟨rfl,k6,rfl⟩
theorem nT {k n:Nat}{b:FB}{R:Rg}{ds:List Deferred}{o:Obj}(hb:b.rd=none)(ne:X.Mu≠X.Wg)(hC:H X.C=none)(hG:X.GI (KL D κ) o)
  (h:∀k',Sb (Jw prog X κ k' .wr D H) n b cs R ds):Sb (Jw prog X κ k .up D (H.put X.C (true,o))) n b cs R (dcall 106 #[.pointer (some ⟨X.Mu,0,none⟩)]::ds):=by
 refine Sb.TY (vs:= [.pointer (some ⟨X.Mu,0,none⟩)]) Jw.QG hb func106 kR rfl ntmps106 (Nat.le_of_ble_eq_true rfl) fun c hm hc=> ?_;refine .rg rfl rfl ?_;refine .m ?_;refine .x .nk ?_;refine .x (.fa (zz:=RR)) ?_;refine So.QA rfl rfl rfl nofun rfl (.mk' rfl) rfl (tX ne hC hG) ?_;rintro v J' ⟨rfl,k',rfl⟩;refine .dn ?_;refine Sc.over Jw.QG rfl (Sb.leaveD Jw.QG func106 rfl results106 (.inl hm) (hc _ (h k')))
end
set_option maxHeartbeats 1000000
theorem aQ:∀a:Nat,a<8->∀b:Nat,b<2->XD .and .u64 ((a*4294967296+b:Nat):Int) 2147483648=0:=by decide +kernel
theorem bQ:∀a:Nat,a<8->∀b:Nat,b<2->XD .and .u64 ((a*4294967296+b:Nat):Int) 2147483647=(b:Int):=by decide +kernel
theorem cQ:∀a:Nat,a<8->∀b:Nat,b<2->((a*4294967296+b:Nat):Int).fdiv (2 ^ (min (32:Int).toNat IntKind.u64.bits))=(a:Int):=by decide +kernel
theorem aBD:IntKind.u64.wrap (-1)=18446744073709551615:=by decide +kernel
theorem w7:NC .shl .u64 18446744073709551615 32=some (.int .u64 18446744069414584320):=by
 show some (Value.int .u64 (IntKind.u64.wrap (18446744073709551615*2 ^ (min (32:Int).toNat IntKind.u64.bits))))=_;rw[show IntKind.u64.wrap (18446744073709551615*2 ^ (min (32:Int).toNat IntKind.u64.bits))=18446744069414584320 by decide +kernel]
theorem aDp:IntKind.u64.wrap 1=1:=by decide +kernel
theorem aBs:NC .shl .u64 1 32=some (.int .u64 4294967296):=by
 show some (Value.int .u64 (IntKind.u64.wrap (1*2 ^ (min (32:Int).toNat IntKind.u64.bits))))=_;rw[show IntKind.u64.wrap (1*2 ^ (min (32:Int).toNat IntKind.u64.bits))=4294967296 by decide +kernel]
theorem vV:IntKind.i32.wrap (-1)= -1:=by decide +kernel
theorem EW:∀a:Nat,a<8->IntKind.i32.wrap (a:Int)=(a:Int):=by decide +kernel
theorem jR:∀a:Nat,a<8->IntKind.u32.wrap (a:Int)=(a:Int):=by decide +kernel
set_option maxHeartbeats 4000000
def Ch.bad(c:Ch)(i:Nat):Option Int:=if c.fits i then(c.lk i).wV.map (fun n=> (n:Int)) else some (-1)
def wF(c:Ch)(D:Nat->Bool)(k v:Value):Prop:=∃(i:Nat) (z:Int),i<=c.m/\D i=true/\c.bad i=some z/\k=.int .i64 (i:Nat)/\v=.int .i64 z
def GIc(c:Ch)(D:Nat->Bool)(o:Obj):Prop:=∃es cl,o=.map es cl/\eC es cl (wF c D)
theorem kK(i:Int):uE en 1 3 (.int .i64 i):=⟨_,[_],rfl,rfl,_,rfl⟩
theorem pM {c:Ch}{D:Nat->Bool}{es:Array MapEntry}{cl:Nat}(h:eC es cl (wF c D)):∀e∈es.toList,uE en 1 3 e.key:=fun e he=> by
 obtain⟨i,z,_,_,_,hk,_⟩:=(h.mem e.key e.val).2 ⟨e,he,rfl,rfl⟩;rw[hk];exact kK _
theorem L7 {c:Ch}{D:Nat->Bool}{κ:Nat}(h:c.bad κ=none)(k v:Value):wF c (KL D κ) k v<->wF c D k v:=by
 unfold wF KL;constructor
 ·rintro⟨i,z,h1,h2,h3,h4,h5⟩;refine⟨i,z,h1,?_,h3,h4,h5⟩;by_cases e:i=κ
  ·subst e;rw[h] at h3;cases h3
  ·simpa [e] using h2
 ·rintro⟨i,z,h1,h2,h3,h4,h5⟩;exact⟨i,z,h1,by simp[h2],h3,h4,h5⟩
theorem M7 {c:Ch}{D:Nat->Bool}{κ:Nat}{z:Int}(hκ:κ<=c.m)(h:c.bad κ=some z)(k v:Value):
  wF c (KL D κ) k v<->(k=.int .i64 (κ:Nat)/\v=.int .i64 z)\/(k≠ .int .i64 (κ:Nat)/\wF c D k v):=by
 unfold wF KL;constructor
 ·rintro⟨i,z',h1,h2,h3,h4,h5⟩;by_cases e:i=κ
  ·subst e;rw[h] at h3;cases h3
   exact .inl ⟨h4,h5⟩
  ·refine .inr ⟨?_,i,z',h1,by simpa [e] using h2,h3,h4,h5⟩;rw[h4];intro hh;simp only[Value.int.injEq,true_and,Int.natCast_inj] at hh;exact e hh
 ·rintro(⟨rfl,rfl⟩|⟨_,i,z',h1,h2,h3,h4,h5⟩)
  ·exact⟨κ,z,hκ,by simp,h,rfl,rfl⟩
  ·exact⟨i,z',h1,by simp[h2],h3,h4,h5⟩
theorem LS {H:View}{b:Nat}{x:Bool×Obj}(h:H b=some x):(H.BA b).put b x=H:=by
 funext c
 by_cases e:c=b
 ·subst e;rw[View.qA,h]
 ·rw[View.kA _ _ e,OA e]
structure aDw(X:Fk)(c:Ch)(H:View)(κ b1 b8 b7 lb lo lc ac:Nat)(A:Option Addr):Prop where
 ne:X.Mu≠X.Wg
 ok:c.Ok
 ch:SG H c lb lo lc A
 h1:∃f,H b1=some (f,.cells ⟨(c.val lb lo lc ac A).cells.toList⟩ 133 (0,0))
 h8:∃f,H b8=some (f,.cells ⟨[.int .i64 (κ:Nat)]⟩ 3 (0,0))
 h7:∃f,H b7=some (f,.cells ⟨[.map (some X.C)]⟩ 192 (0,0))
 NL:∀i,i<=c.m->c.fits i=true->(c.lk i).MH
 kn:κ<=c.m
 P9:FC H
 C0:H X.C=none
 GI:X.GI=GIc c
def aBF(X:Fk)(b1 b8 b7:Nat):List Value:= [.pointer (some ⟨X.Wg,0,none⟩),.pointer (some ⟨b1,0,none⟩),.pointer (some ⟨b8,0,none⟩),.pointer (some ⟨X.Mu,0,none⟩),.pointer (some ⟨b7,0,none⟩)]
section
variable {X:Fk}{c:Ch}{H:View}{κ b1 b8 b7 lb lo lc ac:Nat}{A:Option Addr}
theorem V1(w:aDw X c H κ b1 b8 b7 lb lo lc ac A)
  (done:∀(H':View) (D:Nat->Bool) (k n:Nat) (b:FB) (cs:List Frame) (R:Rg) (ds:List Deferred),b.rd=none->Sb (Jq prog 0) n b cs R ds->Sb (Jw prog X κ k .wr D H') n b cs R (dcall 103 #[.pointer (some ⟨X.Wg,0,none⟩)]::ds)) (k:Nat):
  Jw prog X κ k .ld (fun _=> false) H (Go.Conc.born prog { target:=.fn (.func 102) (aBF X b1 b8 b7).toArray,args:=#[] }):=by
 obtain⟨ne,GB,H8,⟨f1,h1⟩,⟨f8,h8⟩,⟨f7,h7⟩,I8,hκ,hG,hC0,R9⟩:=w;have l8:SB false 1 [Value.int .i64 (κ:Nat)] 0=some (.int .i64 (κ:Nat)):=rfl;refine Cl.born (vs:=aBF X b1 b8 b7) Jw.QG func102 kR rfl ntmps102 (Nat.le_of_ble_eq_true rfl) (by simp) ?_;have fin:∀(z:Int) (is:Bool) (H1:View),c.bad κ=(if is then some z else none)->H.le H1->Sc (Jw prog X κ k .ld (fun _=> false) (H1.BA X.C)) 26 ⟨102,.deferred,none⟩ [NT prog]
   [(0,.pointer (some ⟨X.Wg,0,none⟩)),(2,.pointer (some ⟨b8,0,none⟩)),(3,.pointer (some ⟨X.Mu,0,none⟩)),(4,.pointer (some ⟨b7,0,none⟩)),(5,.int .i64 z),(6,.bool is)] [dcall 103 #[.pointer (some ⟨X.Wg,0,none⟩)]] [.code (cR (cR (cR (VG Tryz.f102))))]:=by
  intro z is H1 hb hle;have hC:H1.BA X.C X.C=none:=by simp[View.BA]
  have g8:H1.BA X.C b8=some (f8,.cells ⟨[.int .i64 (κ:Nat)]⟩ 3 (0,0)):=by
   rw[OA (by rintro rfl;rw[hC0] at h8;cases h8)];exact hle _ _ h8
  have g7:H1.BA X.C b7=some (f7,.cells ⟨[.map (some X.C)]⟩ 192 (0,0)):=by
   rw[OA (by rintro rfl;rw[hC0] at h7;cases h7)];exact hle _ _ h7
  generalize H1.BA X.C=H2 at hC g8 g7;refine .sq (.rg rfl rfl ?_);refine So.QA rfl rfl rfl nofun rfl (.mk' rfl) rfl (aAq ne) ?_;rintro v' J' ⟨rfl,k',D',o,hD,hGo,rfl⟩;rw[R9] at hGo;refine .dn (.sq (.rg rfl rfl ?_));refine So.defer Jw.QG (f:=106) (vs:= [.pointer (some ⟨X.Mu,0,none⟩)]) rfl nofun rfl rfl ⟨_,rfl⟩ rfl ?_;refine .dn (.sq (.rg rfl rfl ?_));refine .m ?_;refine .dn ?_;have bot:∀(H':View) (R:Rg) (k':Nat),Sb (Jw prog X κ k' .wr D' H') 26 ⟨102,.deferred,none⟩ [NT prog] R [dcall 103 #[.pointer (some ⟨X.Wg,0,none⟩)]]:=fun H' R k'=>
   done H' D' k' 26 _ _ R [] rfl (Sb.leaveD Jq.cl func102 rfl results102 (.inr rfl) Jq.bot)
  cases is with
  | false=>
   have Q9:X.GI (KL D' κ) o:=by
    rw[R9];obtain⟨es,cl,h2,h3⟩:=hGo;exact⟨es,cl,h2,h3.congr (L7 hb)⟩
   refine .ff rfl (.sp ?_);exact Sc.over Jw.QG rfl (nT rfl ne hC Q9 fun k''=> bot _ _ k'')
  | true=>
   obtain⟨es,cl,rfl,hm⟩:=hGo;refine Sc.mono ?_ (fun g hg=> Jw.ofT rfl hg);refine Sc.aAA (eA.pop hC (eA.nil _)) ?_;refine .tt rfl (.r ?_);refine .x .l0 ?_;refine .x .l0 ?_;refine .m ?_;refine .e (Or.mapUpdate (E:=en) 0 1 rfl rfl rfl rfl rfl rfl rfl dE (kK _) (pM hm) rfl (fun rr hr=> ?_));obtain⟨es',cl',tZ,pU⟩:=hm.put (.int .i64 z) hr;rw[tZ];refine .done ?_;refine Tc.M6 (fun H3 hs=> ?_);have hc3:=hs.get (i:=0) rfl;refine Sc.mono ?_ (fun g hg=> Jw.toT rfl hg);rw[<-LS hc3];have Q9:X.GI (KL D' κ) (.map es' cl'):=by
    rw[R9];exact⟨es',cl',rfl,pU.congr (M7 hκ hb)⟩
   exact Sc.over Jw.QG rfl (nT rfl ne (by simp[View.BA]) Q9 fun k''=> bot _ _ k'')
 refine .sq (.rg rfl rfl ?_);refine So.defer Jw.QG (f:=103) (vs:= [.pointer (some ⟨X.Wg,0,none⟩)]) rfl nofun rfl rfl ⟨_,rfl⟩ rfl ?_;refine .dn ?_;refine Sc.mono ?_ (fun g hg=> Jw.ofT rfl hg);refine Sc.aAA (eA.nil H) ?_;refine .sr ?_;refine .g ?_;refine .g ?_;refine .done (.seq ?_);refine Tc.via (fun R' _=> ∃z is,c.bad κ=(if is then some z else none)/\WB [(0,.pointer (some ⟨X.Wg,0,none⟩)),(2,.pointer (some ⟨b8,0,none⟩)),(3,.pointer (some ⟨X.Mu,0,none⟩)),(4,.pointer (some ⟨b7,0,none⟩)),(5,.int .i64 z),(6,.bool is)] R') ?_ (fun fin'=> ?_)
 ·rintro R' L' ⟨z,is,hb,hR⟩;refine Tc.PC (L':= []) ?_ hR (List.nil_sublist _);refine Tc.M6 (fun H1 hs=> ?_);exact Sc.mono (fin z is H1 hb hs.base) (fun g hg=> Jw.toT rfl (Jw.forget X.C hg))
 ·cases hf:c.fits κ with
  | false=>
   refine .sr ?_;refine .x .l0 ?_;refine .x .l0 ?_;refine .c rfl rfl rfl rfl (fun H hs=> .f X7 rfl (cA.is (.tuple ⟨[(c.lk κ).val,.bool false]⟩) (by rewrite [hf];rfl) (qP _ H c κ lb lo lc ac A GB (H8.le hs.base) hκ (HA hG hs.base)))) ?_;refine .m ?_;refine .x .et ?_;refine .x .et ?_;refine .e (.al (zz:=fun _=> ?_));refine .e (.st 0 (zz:=?_));refine .g ?_;refine .done (.sr ?_);refine .m ?_;refine .done (.ff rfl (.skip ?_));exact fin' _ _ ⟨-1,true,by unfold Ch.bad;rw[hf];rfl,⟨rfl,rfl,rfl,rfl,rfl,rfl,trivial⟩⟩
  | true=>
   refine .sr ?_;refine .x .l0 ?_;refine .x .l0 ?_;refine .c rfl rfl rfl rfl (fun H hs=> .f X7 rfl (cA.is (.tuple ⟨[(c.lk κ).val,.bool true]⟩) (by rewrite [hf];rfl) (qP _ H c κ lb lo lc ac A GB (H8.le hs.base) hκ (HA hG hs.base)))) ?_;refine .m ?_;refine .x .et ?_;refine .x .et ?_;refine .e (.al (zz:=fun _=> ?_));refine .e (.st 0 (zz:=?_));refine .g ?_;refine .done (.sr ?_);refine .m ?_;refine .done (.tt rfl ?_);cases hw:(c.lk κ).wV with
   | none=>
    refine .r ?_;refine .x (.ld 0) ?_;refine .c rfl rfl rfl rfl (fun H hs=> .f aB7 rfl (cA.is (.tuple ⟨[.int .i64 0,.bool false]⟩) (by rewrite [hw];rfl) (MN _ H (c.lk κ) (I8 κ hκ hf)))) ?_;refine .m ?_;refine .x .et ?_;refine .x .et ?_;refine .g ?_;refine .g ?_;refine .done ?_;exact fin' _ _ ⟨0,false,by unfold Ch.bad;rw[hf,hw];rfl,⟨rfl,rfl,rfl,rfl,rfl,rfl,trivial⟩⟩
   | some n=>
    refine .r ?_;refine .x (.ld 0) ?_;refine .c rfl rfl rfl rfl (fun H hs=> .f aB7 rfl (cA.is (.tuple ⟨[.int .i64 (n:Nat),.bool true]⟩) (by rewrite [hw];rfl) (MN _ H (c.lk κ) (I8 κ hκ hf)))) ?_;refine .m ?_;refine .x .et ?_;refine .x .et ?_;refine .g ?_;refine .g ?_;refine .done ?_;exact fin' _ _ ⟨n,true,by unfold Ch.bad;rw[hf,hw];rfl,⟨rfl,rfl,rfl,rfl,rfl,rfl,trivial⟩⟩
end
end Go.Proofs.YtgkmnalhddmclaaGreatDoor
