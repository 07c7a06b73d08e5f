/-
 Texts of the proofs over baudot/dial.
-/
import Derived.Test.YtgkmnalhddmclaaGreatDoorB04
namespace Go.RL
open Go.Conc
structure MB(es:Array MapEntry)(cl:Nat)(F:Value->Value->Prop):Prop where
 keys:(es.toList.map (·.key)).Nodup
 BQ:(es.toList.map (·.born)).Nodup
 lt:∀e∈es.toList,e.born<cl
 mem:∀k v,F k v<->∃e∈es.toList,e.key=k/\e.val=v
theorem MB.nil:MB #[] 0 fun _ _=> False:=⟨by simp,by simp,by simp,by simp⟩
theorem MB.congr {es:Array MapEntry}{cl:Nat}{F F':Value->Value->Prop}(h:MB es cl F)(k:∀a b,F' a b<->F a b):MB es cl F':=⟨h.keys,h.BQ,h.lt,fun a b=> (k a b).trans (h.mem a b)⟩
theorem MB.find {es:Array MapEntry}{cl:Nat}{F:Value->Value->Prop}(h:MB es cl F){k:Value}{r:Option (Nat×Value)}(hr:AF es.toList k r):match r with
  | some (_,v)=> F k v
  | none=> ∀v,¬F k v:=by
 cases r with
 | none=>
  intro v hv;obtain⟨e,he,h1,_⟩:=(h.mem k v).1 hv;exact hr e he h1
 | some p=>
  obtain⟨i,v⟩:=p;obtain⟨e,h1,h2,h3⟩:=hr;exact(h.mem k v).2 ⟨e,List.mem_of_getElem? h1,h2,h3⟩
theorem MB.put {es:Array MapEntry}{cl:Nat}{F:Value->Value->Prop}(h:MB es cl F){k:Value}(v:Value){r:Option (Nat×Value)}(hr:AF es.toList k r):
  ∃es' cl',CY es cl k v r=.map es' cl'/\MB es' cl' fun k' v'=> (k'=k/\v'=v)\/(k'≠k/\F k' v'):=by
 cases r with
 | none=>
  refine⟨_,_,rfl,?_,?_,?_,?_⟩
  ·simp only[Array.toList_push,List.map_append,List.map_cons,List.map_nil];rw[List.nodup_append];refine⟨h.keys,by simp,fun a ha b hb=> ?_⟩;simp only[List.mem_singleton] at hb;subst hb;obtain⟨e,he,rfl⟩:=List.mem_map.1 ha;exact hr e he
  ·simp only[Array.toList_push,List.map_append,List.map_cons,List.map_nil];rw[List.nodup_append];refine⟨h.BQ,by simp,fun a ha b hb=> ?_⟩;simp only[List.mem_singleton] at hb;subst hb;obtain⟨e,he,rfl⟩:=List.mem_map.1 ha;have:=h.lt e he;omega
  ·intro e he;simp only[Array.toList_push,List.mem_append,List.mem_singleton] at he;rcases he with he|rfl
   ·have:=h.lt e he;omega
   ·simp
  ·intro k' v';simp only[Array.toList_push,List.mem_append,List.mem_singleton];constructor
   ·rintro(⟨rfl,rfl⟩|⟨_,hf⟩)
    ·exact⟨_,.inr rfl,rfl,rfl⟩
    ·obtain⟨e,he,h1,h2⟩:=(h.mem k' v').1 hf;exact⟨e,.inl he,h1,h2⟩
   ·rintro⟨e,he|rfl,h1,h2⟩
    ·exact .inr ⟨fun e'=> hr e he (h1.trans e'),(h.mem k' v').2 ⟨e,he,h1,h2⟩⟩
    ·exact .inl ⟨h1.symm,h2.symm⟩
 | some p=>
  obtain⟨i,u⟩:=p;obtain⟨e,h1,h2,h3⟩:=hr;have hi:=(List.getElem?_eq_some_iff.1 h1).1;have he:es.toList[i]=e:=(List.getElem?_eq_some_iff.1 h1).2;have VG:es.toList=es.toList.take i++e::es.toList.drop (i+1):=by
   rw[<-he,<-List.drop_eq_getElem_cons hi,List.take_append_drop]
  have hml:(es.modify i fun e=> { e with key:=k,val:=v }).toList=es.toList.take i++{ e with key:=k,val:=v }::es.toList.drop (i+1):=by
   rw[Array.toList_modify,List.modify_eq_take_cons_drop hi,he]
  have hk:=h.keys;rw[VG,List.map_append,List.map_cons] at hk;refine⟨_,_,rfl,?_,?_,?_,?_⟩
  ·rw[hml,List.map_append,List.map_cons];rw[h2] at hk;exact hk
  ·have hb:=h.BQ;rw[VG,List.map_append,List.map_cons] at hb;rw[hml,List.map_append,List.map_cons];exact hb
  ·intro x hx;rw[hml] at hx;rcases List.mem_append.1 hx with hx|hx
   ·exact h.lt x (by rw[VG];exact List.mem_append_left _ hx)
   ·rcases List.mem_cons.1 hx with rfl|hx
    ·exact h.lt e (by rw[VG];simp)
    ·exact h.lt x (by rw[VG];exact List.mem_append_right _ (List.mem_cons_of_mem _ hx))
  ·intro k' v';rw[hml];rw[List.nodup_append,List.nodup_cons] at hk;obtain⟨_,⟨aT,_⟩,yN⟩:=hk;constructor
   ·rintro(⟨rfl,rfl⟩|⟨aB,hf⟩)
    ·exact⟨_,List.mem_append_right _ (List.mem_cons_self ..),rfl,rfl⟩
    ·obtain⟨x,hx,g1,g2⟩:=(h.mem k' v').1 hf;rw[VG] at hx;rcases List.mem_append.1 hx with hx|hx
     ·exact⟨x,List.mem_append_left _ hx,g1,g2⟩
     ·rcases List.mem_cons.1 hx with rfl|hx
      ·exact absurd (g1.symm.trans h2) aB
      ·exact⟨x,List.mem_append_right _ (List.mem_cons_of_mem _ hx),g1,g2⟩
   ·rintro⟨x,hx,g1,g2⟩;rcases List.mem_append.1 hx with hx|hx
    ·refine .inr ⟨fun e'=> yN _ (List.mem_map_of_mem hx) _ (List.mem_cons_self ..) (g1.trans (e'.trans h2.symm)),(h.mem k' v').2 ⟨x,by rw[VG];exact List.mem_append_left _ hx,g1,g2⟩⟩
    ·rcases List.mem_cons.1 hx with rfl|hx
     ·exact .inl ⟨g1.symm,g2.symm⟩
     ·refine .inr ⟨fun e'=> aT ?_,(h.mem k' v').2 ⟨x,by rw[VG];exact List.mem_append_right _ (List.mem_cons_of_mem _ hx),g1,g2⟩⟩;have:=List.mem_map_of_mem (f:=(·.key)) hx;rw[g1,e',<-h2] at this;exact this
def AE(es:Array MapEntry)(seen:Array Nat):List MapEntry:=es.toList.filter fun e=> !seen.contains e.born
theorem PJ(es:Array MapEntry):AE es #[]=es.toList:=by simp[AE]
theorem fS {es:Array MapEntry}{seen:Array Nat}(h:∀e∈es.toList,seen.contains e.born=true):AE es seen= []:=by
 unfold AE;rw[List.filter_eq_nil_iff];intro e he;rw[h e he];simp
theorem gS {es:Array MapEntry}{seen:Array Nat}{e:MapEntry}(hn:(es.toList.map (·.born)).Nodup)(he:e∈es.toList)(hs:seen.contains e.born=false):(AE es seen).Perm (e::AE es (seen.push e.born)):=by
 have hme:e∈AE es seen:=by
  unfold AE;rw[List.mem_filter];exact⟨he,by rw[hs];rfl⟩
 obtain⟨A,B,hAB⟩:=List.append_of_mem he;have hb:=hn;rw[hAB,List.map_append,List.map_cons,List.nodup_append,List.nodup_cons] at hb;obtain⟨_,⟨h1,_⟩,h2⟩:=hb;have other:∀x:MapEntry,x.born≠e.born->(!(seen.push e.born).contains x.born)=!seen.contains x.born:=fun x hx=> by
  rw[Array.contains_push];have:(x.born==e.born)=false:=by simpa using hx
  simp[this]
 have hA:A.filter (fun x=> !(seen.push e.born).contains x.born)=A.filter fun x=> !seen.contains x.born:=List.filter_congr fun x hx=> other x fun e'=> h2 _ (List.mem_map_of_mem hx) _ (List.mem_cons_self ..) e';have hB:B.filter (fun x=> !(seen.push e.born).contains x.born)=B.filter fun x=> !seen.contains x.born:=List.filter_congr fun x hx=> other x fun e'=> h1 (by
  have:=List.mem_map_of_mem (f:=(·.born)) hx;rw[e'] at this;exact this)
 unfold AE;rw[hAB,List.filter_append,List.filter_append,List.filter_cons_of_pos (by rw[hs];rfl),List.filter_cons_of_neg (by simp),hA,hB];exact List.perm_middle
end Go.RL
namespace Go.Proofs.YtgkmnalhddmclaaGreatDoor
open Go.RL Go.Proofs.Tryz
set_option maxRecDepth 10000
set_option maxHeartbeats 4000000
def VZ(H:View)(ps:List Nat)(eb:Nat):Prop:=
 ∃f es et ez,H eb=some (f,.cells ⟨es⟩ et ez)/\∀i:Nat,i<ps.length->YB true 2 es (0+i*2)=some (FD (ps[i]?.getD 0) i)
theorem VZ.le {H H':View}{ps:List Nat}{eb:Nat}(h:VZ H ps eb)(k:H.le H'):VZ H' ps eb:=by
 obtain⟨f,es,et,ez,h1,h2⟩:=h;exact⟨f,es,et,ez,k _ _ h1,h2⟩
theorem wD:∀c:Nat,c<32->0<(bA c 7).length/\(bA c 7).length<=6/\∀i:Nat,i<(bA c 7).length->(bA c 7)[i]?.getD 0<=6:=by decide +kernel
theorem Lk.QY {k:Lk}(h:k.ok=true):(1<=k.s0/\k.s0<=k.s1/\k.s1<=40)/\(1<=k.r0/\k.r0<=k.r1/\k.r1<=40)/\(-9<=k.l0/\k.l0<=k.l1/\k.l1<=9)/\(-12<=k.m0/\k.m0<=k.m1/\k.m1<=12):=by
 simp[Lk.ok,xC,Lk.D1,Lk.sends,Lk.reads,Lk.gR,Lk.rR,oB,oD,JD] at h
 omega
structure Lk.cH(k:Lk):Prop where
 s:0<=k.s0/\k.s1<=1000
 r:0<=k.r0/\k.r1<=1000
 l: -1000<=k.l0/\k.l1<=1000
 m: -1000<=k.m0/\k.m1<=1000
 o:k.s0<=1000000/\k.r0<=1000000/\k.l0<=1000000/\k.m0<=1000/\ -1000000<=k.s1/\ -1000000<=k.r1/\ -1000000<=k.l1/\ -1000000<=k.m1
theorem Lk.bL {k:Lk}(h:k.ok=true):k.cH:=by
 obtain⟨h1,h2,h3,h4⟩:=Lk.QY h;exact⟨oM,oM,oM,oM,oM⟩
theorem Lk.cH.stg {k:Lk}(h:k.cH){code:Nat}(hc:code<32){x:VA}(hx:x∈k.DN code):x.Ok/\x.ps=bA code 7:=by
 obtain⟨s,r,n,f,h1,h2,h3,h4,rfl⟩:=Lk.pM.1 hx;obtain⟨g1,g2,g3,g4,g5⟩:=h;obtain⟨p1,p2,p3⟩:=wD code hc;exact⟨⟨hc,p1,p2,p3,⟨by show 0<=s;omega,by show s<=1000;omega⟩,⟨by show 0<=r;omega,by show r<=1000;omega⟩,⟨by show -1000<=n;omega,by show n<=1000;omega⟩,⟨by show -1000<=f;omega,by show f<=1000;omega⟩,⟨by show -1000<=k.m0;omega,by show k.m0<=1000;omega⟩,by show k.m1<=1000;omega⟩,rfl⟩
theorem Lk.cH.bounds {k:Lk}(h:k.cH):∀z,z∈ [k.s0,k.r0,k.l0,k.m0,k.s1,k.r1,k.l1,k.m1]-> -1000000<=z/\z<=1000000:=by
 obtain⟨g1,g2,g3,g4,g5⟩:=h;simp only[List.mem_cons,List.not_mem_nil,or_false,forall_eq_or_imp,forall_eq];omega
def Lk.iF(k:Lk)(code v:Nat):Bool:=(k.DN code).any fun s=> s.reach v
def vF(K:Nat->Bool)(k v:Value):Prop:=v=.bool true/\∃u:Nat,u<128/\k=.int .u8 (u:Nat)/\K u=true
theorem DH {K K':Nat->Bool}(h:∀u,u<128->K u=K' u)(k v:Value):vF K k v<->vF K' k v:=
 ⟨fun⟨h1,u,h2,h3,h4⟩=> ⟨h1,u,h2,h3,by rw[<-h u h2];exact h4⟩,fun⟨h1,u,h2,h3,h4⟩=> ⟨h1,u,h2,h3,by rw[h u h2];exact h4⟩⟩
theorem aAi {K:Nat->Bool}{w:Nat}(hw:w<128)(k v:Value):vF (fun u=> K u||u==w) k v<->(k=.int .u8 (w:Nat)/\v=.bool true)\/(k≠ .int .u8 (w:Nat)/\vF K k v):=by
 constructor
 ·rintro⟨h1,u,h2,h3,h4⟩;by_cases e:u=w
  ·subst e;exact .inl ⟨h3,h1⟩
  ·refine .inr ⟨?_,h1,u,h2,h3,?_⟩
   ·rw[h3];intro h;simp only[Value.int.injEq,true_and] at h;omega
   ·have:(u==w)=false:=by simpa using e
    have h5:(K u||u==w)=true:=h4;rw[this,Bool.or_false] at h5;exact h5
 ·rintro(⟨h1,h2⟩|⟨_,h1,u,h2,h3,h4⟩)
  ·exact⟨h2,w,hw,h1,by simp⟩
  ·exact⟨h1,u,h2,h3,by show(K u||u==w)=true;rw[h4];rfl⟩
theorem QJ(u:Nat):XD en 1 117 (.int .u8 (u:Nat)):=⟨_,[_],rfl,rfl,_,rfl⟩
theorem OP(f:Nat->Bool):XD en 2 167 (.agg ⟨rowOf f⟩):=by
 refine⟨_,rowOf f,rfl,rfl,?_⟩;refine⟨_,rfl,wB f,fun i hi=> ?_⟩;refine⟨f i,?_⟩;unfold chunk;show((rowOf f).drop (i*1)).take 1=_;have RN:i<(rowOf f).length:=by rw[wB];exact hi
 rw[Nat.mul_one,List.drop_eq_getElem_cons RN];have:(rowOf f)[i]=.bool (f i):=Option.some.inj ((List.getElem?_eq_getElem RN).symm.trans (uC f hi));rw[this];rfl
theorem cQ {es:Array MapEntry}{cl:Nat}{K:Nat->Bool}(h:MB es cl (vF K)):∀e∈es.toList,XD en 1 117 e.key:=fun e he=> by
 obtain⟨_,u,_,h3,_⟩:=(h.mem e.key e.val).2 ⟨e,he,rfl,rfl⟩;rw[h3];exact QJ u
def tS(F:Value->Value->Prop)(K:Nat->Bool):Prop:=∀k v,F k v->v=.bool true/\∃f:Nat->Bool,k=.agg ⟨rowOf f⟩/\∀u,u<128->f u=true->K u=true
theorem tS.keys {es:Array MapEntry}{cl:Nat}{F:Value->Value->Prop}{K:Nat->Bool}(h:MB es cl F)(g:tS F K):∀e∈es.toList,XD en 2 167 e.key:=fun e he=> by
 obtain⟨_,f,h3,_⟩:=g _ _ ((h.mem e.key e.val).2 ⟨e,he,rfl,rfl⟩);rw[h3];exact OP f
theorem uW {f g:Nat->Bool}(h:rowOf f=rowOf g){u:Nat}(hu:u<128):f u=g u:=by
 have h1:=uC f hu;rw[h,uC g hu] at h1;simpa using h1.symm
def aCb(k:Lk)(code:Nat)(H:View)(v:Value)(H':View):Prop:=H.le H'/\∃m es cl,v=.map (some m)/\H' m=some (true,.map es cl)/\H m=none/\MB es cl (vF (k.iF code))
section
variable(M:Md prog)(H:View)
theorem uU(k:Lk)(hk:k.cH)(code eb ec:Nat)(hc:code<32)(hE:VZ H (bA code 7) eb):
  dA M 53 #[k.val,.agg ⟨[.int .i64 code,.slice (some ⟨eb,0,none⟩) (bA code 7).length ec]⟩] H (aCb k code H):=by
 refine .en func53 ntmps53 fun St c cs hK=> ?_;refine U2 ?_;refine .bo fun b2=> ?_;refine .bo fun b3=> ?_;refine U4 ?_;refine .e (Or.makeMap rfl rfl dE (fun m1=> ?_));refine .al fun b5=> ?_;refine U4 ?_;refine .e (Or.makeMap rfl rfl dE (fun m2=> ?_));refine .al fun b6=> ?_;refine U7 ?_;refine To.OF rfl rfl rfl rfl rfl rfl dE (TC.h (MM M H k code (bA code 7).length eb ec)) (fun w H1 hw=> ?_);obtain⟨nD,c2,c5,c3,rfl,RD⟩:=hw;refine U2 ?_;have SS:=hE.le nD;refine Tc.db (R':= [(15,R4 c2 c5 c3),(5,.pointer (some ⟨b5,0,none⟩)),(6,.pointer (some ⟨b6,0,none⟩)),(4,.map none)]) (L':= [(b6,true,.cells ⟨[.map (some m2)]⟩ 158 (0,0)),(m2,true,.map #[] 0),(b5,true,.cells ⟨[.map (some m1)]⟩ 115 (0,0)),(m1,true,.map #[] 0)]) ?_;have hI0:∀a b,vF (fun _=> false) a b<->False:=fun a b=> ⟨fun⟨_,_,_,_,h⟩=> (by cases h),fun h=> h.elim⟩
 refine Tc.EM (A:= []) (xs:=k.DN code) (ts:= [16]) (fun rest H₁ L₁=> ∃es1 cl1 K1 es2 cl2 F2,L₁= [(b6,true,.cells ⟨[.map (some m2)]⟩ 158 (0,0)),(m2,true,.map es2 cl2),(b5,true,.cells ⟨[.map (some m1)]⟩ 115 (0,0)),(m1,true,.map es1 cl1)]/\H1.le H₁/\
   MB es1 cl1 (vF K1)/\MB es2 cl2 F2/\tS F2 K1/\∀u,u<128->(K1 u||rest.any fun s=> s.reach u)=k.iF code u) (fun _ _ _=> False) rfl rfl rfl rfl (fun H h=> TK M H k code eb ec c2 c5 c3 hk.bounds h) (qQ.le) (fun rest H₁ L₁ ⟨_,_,_,_,_,_,_,h,_⟩=> RD.le _ _ h) rfl (fun _ _=> rfl)
   ⟨#[],0,fun _=> false,#[],0,fun _ _=> False,rfl,View.le_refl _,MB.nil.congr hI0,MB.nil,fun _ _ h=> h.elim,fun u _=> by rw[Bool.false_or];rfl⟩ ?_ ?_ ?_
 ·rintro r s rest mb l tmps asg bdy H₁ _ hs ⟨es1,cl1,K1,es2,cl2,F2,rfl,IE,A6,hm2,KZ,PA⟩ Q1 St1 cc1 cs1 mQ q1 -;obtain⟨LB,TW⟩:=hk.stg hc hs;have QQ:eE H₁ s eb:=by
   have:=SS.le IE;rw[<-TW] at this;exact this
  have ZV:s.val eb ec mb=.agg ⟨[.int .i64 s.code,.slice (some ⟨eb,0,none⟩) s.ps.length ec,.int .i64 s.send,.int .i64 s.read,.int .i64 s.lean,.int .i64 s.first,.int .i64 s.mf,.int .i64 s.mt,.map (some mb)]⟩:=rfl;refine U ?_;refine .al fun b7=> ?_;refine U2 ?_;refine Tc.beginRound (i:=2) rfl rfl rfl ?_;refine U4 ?_;refine To.HR 1 rfl (fun cN=> ?_);have hEm:eE (H₁.put mb (true,.map #[] 0)) s eb:=by
   obtain⟨f,es,et,ez,h1,h2⟩:=QQ;exact⟨f,es,et,ez,View.kM _ cN _ _ h1,h2⟩
  refine To.OF rfl rfl rfl rfl rfl rfl dE (TC.h (K4 M (H₁.put mb (true,.map #[] 0)) s LB eb ec mb hEm (View.pA ..))) (fun w H2 hw=> ?_);obtain⟨aBj,rfl⟩:=hw;have tP:H₁.le H2:=fun b x hb=> by
   have aB:b≠mb:=by rintro rfl;rw[cN] at hb;cases hb
   exact aBj b x aB (by rw[View.jA _ _ aB];exact hb)
  refine To.lower tP ?_;have ln1:=WI s.reach;have on1:=lK s.reach;have st1:zE (List.replicate 128 (Value.bool false)) 0 (rowOf s.reach)=rowOf s.reach:=IM _ (by simp);have ld1:=HM s.reach;refine .al fun b8=> ?_;refine .e (Or.storeT (E:=en) 0 rfl rfl rfl rfl rfl ln1 rfl (by decide +kernel) on1 rfl st1 ?_);refine U5 ?_;refine .x (mA.load (E:=en) 0 rfl rfl rfl rfl ld1) ?_;refine .e (Or.lookup (E:=en) 2 rfl rfl rfl (fun H hs=> ⟨true,hs.get (i:=5) rfl⟩) rfl rfl rfl dE (OP s.reach) (KZ.keys hm2) rfl dE (fun rr hr=> ?_));have KG:=hm2.find hr;cases rr with
  | some p=>
   obtain⟨pi,pv⟩:=p;simp only at KG;obtain⟨rfl,f,hf1,hf2⟩:=KZ _ _ KG;have sP:∀u,u<128->s.reach u=true->K1 u=true:=fun u hu h=> hf2 u hu (by
    simp only[Value.agg.injEq,Array.mk.injEq] at hf1;rw[<-uW hf1 hu];exact h)
   refine U3 ?_;refine Tc.AA mQ (i:=2) rfl (.inl ⟨rfl,rfl⟩) (fun H' hs=> q1 H' _ _ (hs.less sL) ⟨es1,cl1,K1,es2,cl2,F2,rfl,IE,A6,hm2,KZ,fun u hu=> ?_⟩);rw[<-PA u hu,List.any_cons];cases h:s.reach u with
   | true=> rw[sP u hu h];rfl
   | false=> rfl
  | none=>
   simp only at KG;refine U6 ?_;refine .x (mA.load (E:=en) 0 rfl rfl rfl rfl ld1) ?_;refine .e (Or.mapUpdate (E:=en) 5 2 rfl rfl rfl rfl rfl rfl rfl dE (OP s.reach) (KZ.keys hm2) rfl (fun rr hr=> ?_));obtain⟨es2',cl2',cY,aCZ⟩:=hm2.put (.bool true) hr;rw[cY];refine U3 ?_;refine .x (mA.load (E:=en) 0 rfl rfl rfl rfl ld1) ?_;refine U3 ?_;refine Tc.db (Tc.IA (σ:= { x:Nat×Array MapEntry×Nat//x.1<=128/\MB x.2.1 x.2.2 (vF fun u=> K1 u||(decide (u<x.1)&&s.reach u)) })
    (fun x=> ([(25,.int .i64 (x.1.1:Nat)),(24,.agg ⟨rowOf s.reach⟩),(5,.pointer (some ⟨b5,0,none⟩)),(6,.pointer (some ⟨b6,0,none⟩)),(8,.pointer (some ⟨b8,0,none⟩))],
     [(l,true,.loop { Loop.fresh 53 tmps [16].toArray asg bdy r with state:=.busy }),(r,true,.deferred (some [])),(b6,true,.cells ⟨[.map (some m2)]⟩ 158 (0,0)),(m2,true,.map es2' cl2'),(b5,true,.cells ⟨[.map (some m1)]⟩ 115 (0,0)),(m1,true,.map x.1.2.1 x.1.2.2)])) (fun x=> 128-x.1.1) ?_ ⟨(0,es1,cl1),Nat.zero_le _,A6.congr (DH (fun u _=> by simp))⟩)
   rintro⟨⟨v,es1',cl1'⟩,v1,v2⟩ vh;simp only at v1 v2;show Tc M St1 _ _ H₁ _ [(25,.int .i64 (v:Nat)),(24,.agg ⟨rowOf s.reach⟩),(5,.pointer (some ⟨b5,0,none⟩)),(6,.pointer (some ⟨b6,0,none⟩)),(8,.pointer (some ⟨b8,0,none⟩))]
     [(l,true,.loop _),(r,true,.deferred (some [])),(b6,true,.cells ⟨[.map (some m2)]⟩ 158 (0,0)),(m2,true,.map es2' cl2'),(b5,true,.cells ⟨[.map (some m1)]⟩ 115 (0,0)),(m1,true,.map es1' cl1')] _ _
   by_cases cv:v=128
   ·subst cv;refine U8 ?_;refine Tc.AA mQ (i:=0) rfl (.inl ⟨rfl,rfl⟩) (fun H' hs=> q1 H' _ _ (hs.less sL) ⟨es1',cl1',fun u=> K1 u||s.reach u,es2',cl2',_,rfl,IE,v2.congr (DH fun u hu=> by simp[hu]),aCZ,?_,fun u hu=> ?_⟩)
    ·rintro k' v' (⟨rfl,rfl⟩|⟨_,hf⟩)
     ·exact⟨rfl,s.reach,rfl,fun u _ h=> by show(K1 u||s.reach u)=true;rw[h];simp⟩
     ·obtain⟨h1,f,h2,h3⟩:=KZ _ _ hf;exact⟨h1,f,h2,fun u hu h=> by show(K1 u||s.reach u)=true;rw[h3 u hu h];rfl⟩
    ·rw[<-PA u hu,List.any_cons,Bool.or_assoc]
   ·have cv2:v<128:=by omega
    have f2:YB false 1 (rowOf s.reach) ((v:Int).toNat*1)=some (.bool (s.reach v)):=by
     show(rowOf s.reach)[(v:Int).toNat*1]? =_;rw[show(v:Int).toNat*1=v by simp];exact uC _ cv2
    have f7:IntKind.u8.wrap (v:Int)=(v:Int):=by
     have:∀v:Nat,v<128->IntKind.u8.wrap (v:Int)=(v:Int):=by decide +kernel
     exact this v cv2
    cases hsr:s.reach v with
    | true=>
     rw[hsr] at f2;refine xK ?_;refine .x (mA.index (E:=en) rfl rfl rfl rfl rfl rfl oM oM f2) ?_;refine xK ?_;refine .e (Or.mapUpdate (E:=en) 5 1 rfl rfl rfl rfl rfl rfl rfl dE (QJ v) (cQ v2) rfl (fun rr hr=> ?_));obtain⟨es1'',cl1'',cY,aCY⟩:=v2.put (.bool true) hr;rw[cY];refine U6 ?_;have vh':=vh ⟨(v+1,es1'',cl1''),by show v+1<=_;omega,aCY.congr fun a b=> ((DH (fun u _=> ?_) a b).trans (aAi cv2 a b))⟩ (by show _-(v+1)<_-v;omega)
     ·exact Tc.db vh'
     ·by_cases e:u=v
      ·subst e;simp[hsr]
      ·have h1:decide (u<v+1)=decide (u<v):=by
        rw[decide_eq_decide];omega
       have h2:(u==v)=false:=by simpa using e
       show(K1 u||(decide (u<v+1)&&s.reach u))=((K1 u||(decide (u<v)&&s.reach u))||u==v)
       rw[h1,h2,Bool.or_false]
    | false =>
     rw[hsr] at f2;refine xK ?_;refine .x (mA.index (E:=en) rfl rfl rfl rfl rfl rfl oM oM f2) ?_;refine yI ?_;have vh':=vh ⟨(v+1,es1',cl1'),by show v+1<=_;omega,v2.congr (DH fun u _=> ?_)⟩ (by show _-(v+1)<_-v;omega)
     ·exact Tc.db vh'
     ·by_cases e:u=v
      ·subst e;simp[hsr]
      ·have h1:decide (u<v+1)=decide (u<v):=by
        rw[decide_eq_decide];omega
       show(K1 u||(decide (u<v+1)&&s.reach u))=(K1 u||(decide (u<v)&&s.reach u))
       rw[h1]
 ·rintro r H₁ L₁ ⟨es1,cl1,K1,es2,cl2,F2,rfl,IE,A6,hm2,KZ,PA⟩;refine U6 ?_;refine Tc.PR (E:=en) (i:=0) hK func53 results53 (vs:= [_]) rfl ⟨rfl,trivial⟩ ?_;refine fun H' hs=> ⟨View.le_trans nD (View.le_trans IE hs.base),m1,es1,cl1,rfl,hs.get (i:=4) rfl,?_,A6.congr (DH fun u hu=> ?_)⟩
  ·have:=hs.fresh (i:=4) rfl;cases h:H m1 with
   | none=> rfl
   | some y=> rw[IE _ _ (nD _ _ h)] at this;cases this
  ·rw[<-PA u hu];simp
 ·rintro _ _ _ _ h;exact h.elim
end
def OK(rt:Nat)(x:Nat×List Int):Bool:=x.1 !=rt
def VA.CC(s:VA)(rt:Nat):Option (Int×Int×Int×List Int):=(s.all.find? (OK rt)).map fun x=> (s.send,s.read,s.lean,x.2)
def Lk.CC(k:Lk)(code:Nat):Option (Int×Int×Int×List Int):=(k.DN code).findSome? fun s=> s.CC (xB code)
theorem VA.mM(s:VA):∀(d i v:Nat) (mv:List Int) (x:Nat×List Int),x∈s.leaves d i v mv->x.2.length=mv.length+d
 | 0,_,_,mv,x,h=> by
  simp only[VA.leaves,List.mem_singleton] at h;subst h;rfl
 | d+1,i,v,mv,x,h=> by
  unfold VA.leaves at h;obtain⟨o,_,h2⟩:=List.mem_flatMap.1 h;have:=VA.mM s d (i+1) _ _ x h2;rw[this];simp
  omega
theorem VA.cO(s:VA):∀(d i v:Nat) (mv:List Int) (x:Nat×List Int),v<128->x∈s.leaves d i v mv->x.1<128
 | 0,_,_,mv,x,hv,h=> by
  simp only[VA.leaves,List.mem_singleton] at h;subst h;exact hv
 | d+1,i,v,mv,x,hv,h=> by
  unfold VA.leaves at h;obtain⟨o,h1,h2⟩:=List.mem_flatMap.1 h;have:=VA.JP h1;exact VA.cO s d (i+1) _ _ x (aI v hv _ oM) h2
theorem VA.R0 {s:VA}{x:Nat×List Int}(h:x∈s.all):x.2.length=s.ps.length:=by
 have:=VA.mM s _ _ _ _ x h;simpa using this
def zM(s r n:Int)(g:Gl 3 1):Value:=.agg ⟨[.int .i64 s,.int .i64 r,.int .i64 n,g.val]⟩
def aAt(o:Option (Int×Int×Int×List Int))(H:View)(v:Value)(H':View):Prop:=
 match o with
 | none=> v=.tuple ⟨[.agg ⟨[.int .i64 0,.int .i64 0,.int .i64 0,.slice none 0 0]⟩,.bool false]⟩
 | some (s,r,n,mv)=> ∃g:Gl 3 1,v=.tuple ⟨[zM s r n g,.bool true]⟩/\g.l=kA mv/\∀y∈g.bl,H' y.1=some y.2/\H y.1=none
section
variable(M:Md prog)(H:View)
theorem zF(k:Lk)(hk:k.cH)(code eb ec:Nat)(hc:code<32)(hE:VZ H (bA code 7) eb):
  dA M 57 #[k.val,.agg ⟨[.int .i64 code,.slice (some ⟨eb,0,none⟩) (bA code 7).length ec]⟩] H (fun v H'=> H.le H'/\aAt (k.CC code) H v H'):=by
 refine .en func57 ntmps57 fun St c cs hK=> ?_;refine U2 ?_;refine .bo fun b2=> ?_;refine .bo fun b3=> ?_;refine .al fun b4=> ?_;refine .al fun b5=> ?_;refine U4 ?_;refine .cl (fun H hs=> NP M H code _ hc) ?_;refine .al fun b6=> ?_;refine U7 ?_;refine To.OF rfl rfl rfl rfl rfl rfl dE (TC.h (MM M H k code (bA code 7).length eb ec)) (fun w H1 hw=> ?_);obtain⟨nD,c2,c5,c3,rfl,RD⟩:=hw;refine U2 ?_;have SS:=hE.le nD;refine Tc.db (R':= [(14,R4 c2 c5 c3),(4,.pointer (some ⟨b4,0,none⟩)),(5,.pointer (some ⟨b5,0,none⟩)),(6,.pointer (some ⟨b6,0,none⟩))]) (L':= [(b6,true,.cells ⟨[.int .u8 (xB code:Nat)]⟩ 117 (0,0)),(b5,true,.cells ⟨[.bool false]⟩ 4 (0,0)),(b4,true,.cells ⟨[.int .i64 0,.int .i64 0,.int .i64 0,.slice none 0 0]⟩ 53 (0,0))]) ?_;refine Tc.EM (A:= []) (xs:=k.DN code) (ts:= [15]) (fun rest H₁ L₁=> L₁= [(b6,true,.cells ⟨[.int .u8 (xB code:Nat)]⟩ 117 (0,0)),(b5,true,.cells ⟨[.bool false]⟩ 4 (0,0)),(b4,true,.cells ⟨[.int .i64 0,.int .i64 0,.int .i64 0,.slice none 0 0]⟩ 53 (0,0))]/\H1.le H₁/\(rest.findSome? fun s=> s.CC (xB code))=k.CC code)
   (fun j H₁ L₁=> j=.ret/\H1.le H₁/\∃(s r n:Int) (mv:List Int) (g:Gl 3 1),k.CC code=some (s,r,n,mv)/\g.l=kA mv/\(∀y∈g.bl,H₁ y.1=some y.2/\H y.1=none)/\L₁= [(b6,true,.cells ⟨[.int .u8 (xB code:Nat)]⟩ 117 (0,0)),(b5,true,.cells ⟨[.bool true]⟩ 4 (0,0)),(b4,true,.cells ⟨[.int .i64 s,.int .i64 r,.int .i64 n,Gl.val g]⟩ 53 (0,0))])
   rfl rfl rfl rfl (fun H h=> TK M H k code eb ec c2 c5 c3 hk.bounds h) (qQ.le) (fun rest H₁ L₁ ⟨_,h,_⟩=> RD.le _ _ h) rfl (fun _ _=> rfl) ⟨rfl,View.le_refl _,rfl⟩ ?_ ?_ ?_
 ·rintro r s rest mb l tmps asg bdy H₁ _ hs ⟨rfl,IE,I2⟩ Q1 St1 cc1 cs1 mQ q1 q1';obtain⟨LB,TW⟩:=hk.stg hc hs;have QQ:eE H₁ s eb:=by
   have:=SS.le IE;rw[<-TW] at this;exact this
  have aA3:∀H H':View,H.le H'->eE H s eb->eE H' s eb:=fun H H' hle he=> VZ.le he hle;refine U ?_;refine .al fun b7=> ?_;refine U2 ?_;refine Tc.beginRound (i:=2) rfl rfl rfl ?_;refine U7 ?_;refine Tc.perm (List.Perm.swap _ _ _) ?_;refine Tc.FM (A:= [(mb,true,.map #[] 0)]) (i:=2) (xs:=s.all) (ts:= [18,19]) (fun rest2 H₂ L₂=> L₂= [(b7,true,.cells ⟨(s.val eb ec mb).cells.toList⟩ 165 (0,0)),(l,true,.loop { Loop.fresh 57 tmps [15].toArray asg bdy r with state:=.busy }),(r,true,.deferred (some [])),(b6,true,.cells ⟨[.int .u8 (xB code:Nat)]⟩ 117 (0,0)),(b5,true,.cells ⟨[.bool false]⟩ 4 (0,0)),(b4,true,.cells ⟨[.int .i64 0,.int .i64 0,.int .i64 0,.slice none 0 0]⟩ 53 (0,0))]/\H1.le H₂/\rest2.find? (OK (xB code))=s.all.find? (OK (xB code)))
   (fun j H₂ L₂=> j=.ret/\H1.le H₂/\∃(s' r' n:Int) (mv:List Int) (g:Gl 3 1),k.CC code=some (s',r',n,mv)/\g.l=kA mv/\(∀y∈g.bl,H₂ y.1=some y.2/\H y.1=none)/\L₂= [(b7,true,.cells ⟨(s.val eb ec mb).cells.toList⟩ 165 (0,0)),(l,true,.loop { Loop.fresh 57 tmps [15].toArray asg bdy r with state:=.busy }),(r,true,.deferred (some [])),(b6,true,.cells ⟨[.int .u8 (xB code:Nat)]⟩ 117 (0,0)),(b5,true,.cells ⟨[.bool true]⟩ 4 (0,0)),(b4,true,.cells ⟨[.int .i64 s',.int .i64 r',.int .i64 n,Gl.val g]⟩ 53 (0,0))])
   rfl rfl rfl rfl rfl (fun H h=> xZ M H s LB eb ec mb) aA3 (fun rest H₁ L₁ ⟨_,h,_⟩=> ?_) rfl (fun _ _=> rfl) ⟨rfl,IE,rfl⟩ ?_ ?_ ?_
  ·have h':=SS.le h;rw[<-TW] at h';exact h'
  ·rintro x rest2 vb l2 tmps2 asg2 bdy2 H₂ _ hx ⟨rfl,tP,hfd⟩ Q2 St2 cc2 cs2 B2 q2 q2';have hxl:=VA.R0 hx;have hx1:x.1<128:=VA.cO s _ _ _ _ x dE hx;have h6:=LB.ps6;refine U7 ?_;refine Tc.beginRound (i:=1) rfl rfl rfl ?_;by_cases cx:x.1=xB code
   ·have K7:rest2.find? (OK (xB code))=s.all.find? (OK (xB code)):=by
     rw[<-hfd,List.find?_cons_of_neg (by simp[OK,cx])]
    refine fH ?_;refine Tc.AA B2 (i:=1) rfl (.inl ⟨rfl,rfl⟩) (fun H' hs'=> q2 H' _ _ hs' ⟨rfl,tP,K7⟩)
   ·have K7:s.all.find? (OK (xB code))=some x:=by
     rw[<-hfd,List.find?_cons_of_pos (by simp[OK,cx])]
    have hw:k.CC code=some (s.send,s.read,s.lean,x.2):=by
     rw[<-I2];have h1:s.CC (xB code)=some (s.send,s.read,s.lean,x.2):=by unfold VA.CC;rw[K7];rfl
     rw[List.findSome?_cons,h1]
    have aC3:((vM s.ps.length x.2).drop 0).take (s.ps.length*1)=kA x.2:=by
     rw[List.drop_zero,Nat.mul_one];unfold vM;rw[List.take_left' (by rw[rA];exact hxl)]
    have XU:0+s.ps.length*1<=(vM s.ps.length x.2).length:=by
     unfold vM;rw[List.length_append,rA,hxl];simp
    have oQ:(kA x.2).all single=true:=by
     rw[List.all_eq_true];intro y hy;obtain⟨z,_,rfl⟩:=List.mem_map.1 hy;rfl
    have vG:∀H:View,H vb=some (true,.cells ⟨vM s.ps.length x.2⟩ 3 (0,0))->gB H 1 (.slice (some ⟨vb,0,none⟩) s.ps.length 7) s.ps.length (kA x.2):=fun _ h=> aC3▸gB.of h XU;refine U9 ?_;refine Tc.dr [9,10] [6,7] mixed rfl ?_;refine V7 0 ?_;refine .ea 7 rfl (Or.EA Gl.val Gl.bl (fun g:Gl 3 1=> g.l=kA x.2) rfl rfl rfl rfl rfl dE tB (fun H hs=> .h (dA.mono (E1 M H _ s.ps.length 7 (kA x.2) oM (vG H (hs.get (i:=0) rfl)) oQ) (by rintro v H' ⟨h1,g,h2,h3,h4⟩;exact⟨h1,g,h2,h3,h4⟩))) (fun g QU=> ⟨S2.mk sL (.inr sL),?_⟩));refine .nn 8 ?_;refine .e 9 7 ?_;refine .e 10 6 ?_;refine .dn ?_;refine Tc.lift (L₂:= [_,_,_,_,_,_,_,_]) rfl (fun Hx hx=> ?_);refine Tc.AA B2 (i:=1) rfl (.inr (.inl ⟨_,rfl,rfl⟩)) (fun H' hs'=> q2' H' _ _ _ (hs'.less sL) ⟨rfl,View.le_trans tP hx.base,s.send,s.read,s.lean,x.2,g,hw,QU,fun y hy=> ⟨hx.at_ y hy,?_⟩,rfl⟩);have h1:=hx.out y hy;cases h2:H y.1 with
    | none=> rfl
    | some z=> rw[tP _ _ (nD _ _ h2)] at h1;cases h1
  ·rintro H₂ _ ⟨rfl,tP,hnf⟩;have aCS:(rest.findSome? fun s=> s.CC (xB code))=k.CC code:=by
    rw[<-I2,List.findSome?_cons];have h1:s.CC (xB code)=none:=by unfold VA.CC;rw[<-hnf];rfl
    rw[h1]
   refine U2 ?_;refine Tc.AA mQ (i:=1) rfl (.inl ⟨rfl,rfl⟩) (fun H' hs'=> q1 H' _ _ (hs'.less sL) ⟨rfl,tP,aCS⟩)
  ·rintro j H₂ _ ⟨rfl,tP,s',r',n',mv,g,hw,hg,hgb,rfl⟩;refine Tc.AA mQ (i:=1) rfl (.inr (.inl ⟨_,rfl,rfl⟩)) (fun H' hs'=> q1' H' _ _ _ (hs'.less sL) ⟨rfl,tP,s',r',n',mv,g,hw,hg,hgb,rfl⟩)
 ·rintro r H₁ _ ⟨rfl,IE,I2⟩;have kE:k.CC code=none:=by rw[<-I2];rfl
  refine U7 ?_;refine Tc.PR (E:=en) (i:=0) hK func57 results57 (vs:= [_,_]) rfl (by refine⟨⟨3,_,_,_,_,_,_,_,rfl,rfl,rfl,rfl⟩,?_⟩;refine⟨⟨2,_,_,_,_,_,_,_,rfl,rfl,rfl,rfl⟩,?_⟩;exact trivial) ?_;exact fun H' hs=> ⟨View.le_trans nD (View.le_trans IE hs.base),by rw[kE];rfl⟩
 ·rintro r j H₁ _ ⟨rfl,IE,s,r',n,mv,g,hw,hg,hgb,rfl⟩;refine Tc.PR (E:=en) (i:=0) hK func57 results57 (vs:= [_,_]) rfl (by refine⟨⟨3,_,_,_,_,_,_,_,rfl,rfl,rfl,rfl⟩,?_⟩;refine⟨⟨2,_,_,_,_,_,_,_,rfl,rfl,rfl,rfl⟩,?_⟩;exact trivial) ?_;exact fun H' hs=> ⟨View.le_trans nD (View.le_trans IE hs.base),by rw[hw];exact⟨g,rfl,hg,fun y hy=> ⟨hs.base _ _ (hgb y hy).1,(hgb y hy).2⟩⟩⟩
end
def YG(code:Nat)(x:Nat×Nat×List Value):Value:=.agg ⟨[.int .i64 code,.slice (some ⟨x.1,0,none⟩) (bA code 7).length x.2.1]⟩
def FF(code:Nat)(x:Nat×Nat×List Value):Bl:= [(x.1,true,.cells ⟨qB (bA code 7)++x.2.2⟩ 108 (0,0))]
theorem VB(code:Nat)(x:Nat×Nat×List Value):((FF code x).map (·.1)).Nodup:=by simp[FF]
def oC(s:Nat)(ps:List Nat):List Value:=((ps.zipIdx s).map fun x=> [Value.int .i64 (x.1:Nat),Value.int .i64 (x.2:Nat)]).flatten
theorem iH:∀(ps:List Nat) (s i:Nat),i<ps.length->((oC s ps).drop (i*2)).take 2= [.int .i64 (ps[i]?.getD 0:Nat),.int .i64 (s+i:Nat)]
 | [],_,_,h=> by simp at h
 | p ::ps,s,i,h=> by
  have e:oC s (p::ps)= [.int .i64 (p:Nat),.int .i64 (s:Nat)]++oC (s+1) ps:=by simp[oC]
  rw[e];cases i with
  | zero=> simp
  | succ i=>
   rw[show(i+1)*2=i*2+2 by omega,List.drop_append];simp only[List.length_cons,List.length_nil];rw[show i*2+2-(0+1+1)=i*2 by omega,List.drop_eq_nil_of_le (by simp),List.nil_append,iH ps (s+1) i (by simpa using h)];simp
   omega
theorem tN(ps:List Nat):(qB ps).length=ps.length*2:=by
 have:∀(ps:List Nat) (s:Nat),(oC s ps).length=ps.length*2:=by
  intro ps;induction ps with
  | nil=> intro s;rfl
  | cons p ps ih=>
   intro s;have e:oC s (p::ps)= [.int .i64 (p:Nat),.int .i64 (s:Nat)]++oC (s+1) ps:=by simp[oC]
   rw[e,List.length_append,ih];simp
   omega
 exact this ps 0
theorem mD {H:View}{code:Nat}{x:Nat×Nat×List Value}(h:∀y∈FF code x,H y.1=some y.2):VZ H (bA code 7) x.1:=by
 refine⟨_,_,_,_,h (x.1,true,.cells ⟨qB (bA code 7)++x.2.2⟩ 108 (0,0)) (by simp[FF]),fun i hi=> ?_⟩;have hl:=tN (bA code 7);have hle:Nat.ble (0+i*2+2) (qB (bA code 7)++x.2.2).length=true:=Nat.ble_eq_true_of_le (by rw[List.length_append];omega);unfold YB;simp only[hle];have h1:=iH (bA code 7) 0 i hi
 congr 3
 rw[Nat.zero_add,List.drop_append_of_le_length oM,List.take_append_of_le_length (by rw[List.length_drop];omega)];have h2:oC 0 (bA code 7)=qB (bA code 7):=rfl;rw[<-h2,h1,Nat.zero_add]
section
variable(M:Md prog)(H:View)
theorem oL {e:TypeId}{sz:Nat}(g:Gl e sz)(h:0<g.n):∃b,g.blk=some b:=by
 cases hb:g.blk with
 | some b=> exact⟨b,rfl⟩
 | none=>
  have h1:=g.h0 hb;have h2:=g.hc;omega
theorem ZE(code:Nat)(h1:code<32):dA M 48 #[.int .i64 code] H (fun v H'=> H.le H'/\∃x,v=YG code x/\True/\∀y∈FF code x,H' y.1=some y.2/\H y.1=none):=
 dA.mono (NI M H code h1) (by
  rintro v H' ⟨h2,g,rfl,h3,h4,h5⟩;obtain⟨b,hb⟩:=oL g (by rw[h3];exact(wD code h1).1);refine⟨h2,(b,g.cap,g.vE),?_,trivial,fun y hy=> h5 y ?_⟩
  ·unfold YG Gl.val;rw[hb,h3];rfl
  ·unfold Gl.bl;rw[hb,h4];exact hy)
theorem iZ(k:Lk)(hk:k.cH)(code:Nat)(hc:code<32):dA M 51 #[k.val,.int .i64 code] H (fun v H'=> H.le H'/\v=.bool (k.CC code).isNone):=by
 refine .en func51 ntmps51 fun St c cs hK=> ?_;cases hw:k.CC code with
 | none=>
  refine U2 ?_;refine .bo fun b2=> ?_;refine U3 ?_;refine Tc.via (fun R' L'=> cC [(6,.bool false)] R') ?_ (fun fin=> ?_)
  ·intro R' L' hR;refine Tc.TE (R':= [(6,.bool false)]) (L':= []) ?_ hR (List.nil_sublist _);refine U6 ?_;refine .rt hK func51 results51 [_] ?_;exact fun H' hs=> ⟨hs.base,by rw[hw];rfl⟩
  ·refine Tc.dr [8] [] mixed rfl ?_;refine V2 0 ?_;refine Ta.each [2,7] kR rfl ⟨mJ.mk rfl rfl rfl (Or.EA (YG code) (FF code) (fun _=> True) rfl rfl rfl rfl rfl dE (VB code) (fun H hs=> .h (ZE M H code hc)) (fun x hx=> ⟨S2.mk sL (.inr sL),?_⟩)),mJ.mk rfl rfl rfl (.al (zz:=fun nb=> ⟨S2.mk sL (.inr sL),?_⟩)),trivial⟩
   ·refine Ta.each [3,7] kR rfl ⟨mJ.mk rfl rfl rfl (Or.EA (σ:=Unit) (fun _=> .tuple ⟨[.agg ⟨[.int .i64 0,.int .i64 0,.int .i64 0,.slice none 0 0]⟩,.bool false]⟩) (fun _=> []) (fun _=> True) rfl rfl rfl rfl rfl dE (fun _=> by simp) (fun H hs=> .h (dA.mono (zF M H k hk code x.1 x.2.1 hc (mD fun y hy=> hs.at_ y (by simp[hy]))) (by rintro v H' ⟨h1,h2⟩;rw[hw] at h2;exact⟨h1,(),h2,trivial,by simp⟩))) (fun _ _=> ⟨S2.mk sL (.inr sL),?_⟩)),mJ.mk rfl rfl rfl (.al (zz:=fun nb=> ⟨S2.mk sL (.inr sL),?_⟩)),trivial⟩
    ·refine V2 4 ?_;refine .nw 6 ?_;refine .ea 7 rfl (.al (zz:=fun nb=> ⟨S2.mk sL (.inr sL),?_⟩));refine .e 8 0 ?_;refine .nw 9 ?_;refine .dn ?_;exact fin _ _ ⟨rfl,trivial⟩
    ·refine .ea 3 rfl (Or.EA (σ:=Unit) (fun _=> .tuple ⟨[.agg ⟨[.int .i64 0,.int .i64 0,.int .i64 0,.slice none 0 0]⟩,.bool false]⟩) (fun _=> []) (fun _=> True) rfl rfl rfl rfl rfl dE (fun _=> by simp) (fun H hs=> .h (dA.mono (zF M H k hk code x.1 x.2.1 hc (mD fun y hy=> hs.at_ y (by simp[hy]))) (by rintro v H' ⟨h1,h2⟩;rw[hw] at h2;exact⟨h1,(),h2,trivial,by simp⟩))) (fun _ _=> ⟨S2.mk sL (.inr sL),?_⟩));refine V2 4 ?_;refine .nw 6 ?_;refine .e 8 0 ?_;refine .nw 9 ?_;refine .dn ?_;exact fin _ _ ⟨rfl,trivial⟩
   ·refine .ea 2 rfl (Or.EA (YG code) (FF code) (fun _=> True) rfl rfl rfl rfl rfl dE (VB code) (fun H hs=> .h (ZE M H code hc)) (fun x hx=> ⟨S2.mk sL (.inr sL),?_⟩));refine .ea 3 rfl (Or.EA (σ:=Unit) (fun _=> .tuple ⟨[.agg ⟨[.int .i64 0,.int .i64 0,.int .i64 0,.slice none 0 0]⟩,.bool false]⟩) (fun _=> []) (fun _=> True) rfl rfl rfl rfl rfl dE (fun _=> by simp) (fun H hs=> .h (dA.mono (zF M H k hk code x.1 x.2.1 hc (mD fun y hy=> hs.at_ y (by simp[hy]))) (by rintro v H' ⟨h1,h2⟩;rw[hw] at h2;exact⟨h1,(),h2,trivial,by simp⟩))) (fun _ _=> ⟨S2.mk sL (.inr sL),?_⟩));refine V2 4 ?_;refine .nw 6 ?_;refine .e 8 0 ?_;refine .nw 9 ?_;refine .dn ?_;exact fin _ _ ⟨rfl,trivial⟩
 | some w=>
  obtain⟨s,r,n,mv⟩:=w;refine U2 ?_;refine .bo fun b2=> ?_;refine U3 ?_;refine Tc.via (fun R' L'=> cC [(6,.bool true)] R') ?_ (fun fin=> ?_)
  ·intro R' L' hR;refine Tc.TE (R':= [(6,.bool true)]) (L':= []) ?_ hR (List.nil_sublist _);refine U6 ?_;refine .rt hK func51 results51 [_] ?_;exact fun H' hs=> ⟨hs.base,by rw[hw];rfl⟩
  ·refine Tc.dr [8] [] mixed rfl ?_;refine V2 0 ?_;refine Ta.each [2,7] kR rfl ⟨mJ.mk rfl rfl rfl (Or.EA (YG code) (FF code) (fun _=> True) rfl rfl rfl rfl rfl dE (VB code) (fun H hs=> .h (ZE M H code hc)) (fun x hx=> ⟨S2.mk sL (.inr sL),?_⟩)),mJ.mk rfl rfl rfl (.al (zz:=fun nb=> ⟨S2.mk sL (.inr sL),?_⟩)),trivial⟩
   ·refine Ta.each [3,7] kR rfl ⟨mJ.mk rfl rfl rfl (Or.EA (fun g:Gl 3 1=> .tuple ⟨[zM s r n g,.bool true]⟩) Gl.bl (fun _=> True) rfl rfl rfl rfl rfl dE tB (fun H hs=> .h (dA.mono (zF M H k hk code x.1 x.2.1 hc (mD fun y hy=> hs.at_ y (by simp[hy]))) (by rintro v H' ⟨h1,h2⟩;rw[hw] at h2;obtain⟨g,h3,_,h4⟩:=h2;exact⟨h1,g,h3,trivial,h4⟩))) (fun g _=> ⟨S2.mk sL (.inr sL),?_⟩)),mJ.mk rfl rfl rfl (.al (zz:=fun nb=> ⟨S2.mk sL (.inr sL),?_⟩)),trivial⟩
    ·refine V2 4 ?_;refine .nw 6 ?_;refine .ea 7 rfl (.al (zz:=fun nb=> ⟨S2.mk sL (.inr sL),?_⟩));refine .e 8 0 ?_;refine .nw 9 ?_;refine .dn ?_;exact fin _ _ ⟨rfl,trivial⟩
    ·refine .ea 3 rfl (Or.EA (fun g:Gl 3 1=> .tuple ⟨[zM s r n g,.bool true]⟩) Gl.bl (fun _=> True) rfl rfl rfl rfl rfl dE tB (fun H hs=> .h (dA.mono (zF M H k hk code x.1 x.2.1 hc (mD fun y hy=> hs.at_ y (by simp[hy]))) (by rintro v H' ⟨h1,h2⟩;rw[hw] at h2;obtain⟨g,h3,_,h4⟩:=h2;exact⟨h1,g,h3,trivial,h4⟩))) (fun g _=> ⟨S2.mk sL (.inr sL),?_⟩));refine V2 4 ?_;refine .nw 6 ?_;refine .e 8 0 ?_;refine .nw 9 ?_;refine .dn ?_;exact fin _ _ ⟨rfl,trivial⟩
   ·refine .ea 2 rfl (Or.EA (YG code) (FF code) (fun _=> True) rfl rfl rfl rfl rfl dE (VB code) (fun H hs=> .h (ZE M H code hc)) (fun x hx=> ⟨S2.mk sL (.inr sL),?_⟩));refine .ea 3 rfl (Or.EA (fun g:Gl 3 1=> .tuple ⟨[zM s r n g,.bool true]⟩) Gl.bl (fun _=> True) rfl rfl rfl rfl rfl dE tB (fun H hs=> .h (dA.mono (zF M H k hk code x.1 x.2.1 hc (mD fun y hy=> hs.at_ y (by simp[hy]))) (by rintro v H' ⟨h1,h2⟩;rw[hw] at h2;obtain⟨g,h3,_,h4⟩:=h2;exact⟨h1,g,h3,trivial,h4⟩))) (fun g _=> ⟨S2.mk sL (.inr sL),?_⟩));refine V2 4 ?_;refine .nw 6 ?_;refine .e 8 0 ?_;refine .nw 9 ?_;refine .dn ?_;exact fin _ _ ⟨rfl,trivial⟩
def Lk.gQ(k:Lk)(code:Nat):Bool:=(k.CC code).isSome
def Lk.oU(k:Lk):Option Nat:=KB k.gQ 32
theorem NW(k:Lk)(hk:k.cH)(b1:Nat)(hb:H b1=some (true,.cells ⟨k.val.cells.toList⟩ 112 (0,0))):gN M H (.func (.func 95) #[] #[.pointer (some ⟨b1,0,none⟩)]) 32 k.gQ:=fun i hi H' hle=> by
 refine TC.of (first:= []) (captured:= [_]) aCz rfl ?_;have dP:=hle _ _ hb;refine .en func95 ntmps95 fun St c cs hK=> ?_;refine U8 ?_;refine .cl (fun H hs=> iZ M H k hk i hi) ?_;refine U3 ?_;refine .rt hK func95 results95 [_] ?_;exact fun H2 hs=> ⟨hs.base,by unfold Lk.gQ;cases k.CC i <;> rfl⟩
theorem ZM(k:Lk)(hk:k.cH):dA M 60 #[k.val] H (fun v H'=> H.le H'/\v=.tuple ⟨[.int .i64 (k.oU.getD 0:Nat),.bool k.oU.isSome]⟩):=by
 refine .en func60 ntmps60 fun St c cs hK=> ?_;refine U2 ?_;refine .bo fun b1=> ?_;refine U6 ?_;refine .cl (fun H hs=> nL M H 32 _ k.gQ dE (NW M H k hk b1 (hs.get (i:=0) rfl))) ?_;refine U5 ?_;refine .rt hK func60 results60 [_,_] ?_;exact okB
end
theorem II {p:Nat->Bool}{x:Nat}:∀ {k:Nat},KB p k=some x->x<k
 | 0,h=> by cases h
 | k + 1,h=> by
  unfold KB at h;cases h1:KB p k with
  | some y=> rw[h1] at h;cases h;have:=II h1;omega
  | none=>
   rw[h1] at h;cases hp:p k with
   | true=> rw[hp] at h;cases h;omega
   | false=> rw[hp] at h;cases h
def Lk.FG(k:Lk)(c:Nat):Bool:=(k.CC c).isNone
def Lk.mv(k:Lk)(n:Int):Lk:= { k with m0:= -n,m1:=n }
def Lk.at(k:Lk)(r:Int):Lk:= { k with r0:=r,r1:=r }
def Lk.dS(k:Lk)(n:Nat):Bool:=(k.mv n).oU.isSome
def Lk.fK(k:Lk):Int:=match KB k.dS 13 with
 | some n=> (n:Int)-1
 | none=> 12
def Lk.TG(k:Lk)(n:Nat):Bool:=decide (0<n)&&(k.at n).oU.isNone
theorem Lk.U1 {k:Lk}(h:k.ok=true){n:Int}(h1:0<=n)(h2:n<=1000):(k.mv n).cH:=by
 obtain⟨g1,g2,g3,g4⟩:=Lk.QY h;exact⟨by show 0<=k.s0/\k.s1<=1000;omega,by show 0<=k.r0/\k.r1<=1000;omega,by show -1000<=k.l0/\k.l1<=1000;omega,by show -1000<= -n/\n<=1000;omega,by show k.s0<=1000000/\k.r0<=1000000/\k.l0<=1000000/\ -n<=1000/\ -1000000<=k.s1/\ -1000000<=k.r1/\ -1000000<=k.l1/\ -1000000<=n;omega⟩
theorem Lk.CU {k:Lk}(h:k.ok=true){n:Int}(h1:0<=n)(h2:n<=1000):(k.at n).cH:=by
 obtain⟨g1,g2,g3,g4⟩:=Lk.QY h;exact⟨by show 0<=k.s0/\k.s1<=1000;omega,by show 0<=n/\n<=1000;omega,by show -1000<=k.l0/\k.l1<=1000;omega,by show -1000<=k.m0/\k.m1<=1000;omega,by show k.s0<=1000000/\n<=1000000/\k.l0<=1000000/\k.m0<=1000/\ -1000000<=k.s1/\ -1000000<=n/\ -1000000<=k.l1/\ -1000000<=k.m1;omega⟩
def sU(l:List Value)(H:View)(v:Value)(H':View):Prop:=H.le H'/\∃g:Gl 3 1,v=.tuple ⟨[g.val,.int .i64 0]⟩/\g.l=l/\∀y∈g.bl,H' y.1=some y.2/\H y.1=none
section
variable(M:Md prog)(H:View)
theorem EW(k:Lk)(hk:k.cH):gN M H (.func (.func 51) #[k.val] #[]) 32 k.FG:=fun i hi H' _=>
 TC.of (first:= [k.val]) (captured:= []) aCq rfl (iZ M H' k hk i hi)
theorem yP(many:Nat)(fv:Value)(p:Nat->Bool)(hm:many<=100000)(hp:gN M H fv many p):dA M 50 #[.int .i64 many,fv] H (fun v H'=> H.le H'/\∃g:Gl 3 1,v=g.val/\g.l=WA p many/\∀x∈g.bl,H' x.1=some x.2/\H x.1=none):=o8 M H many fv p hm hp
theorem W6(k:Lk)(hG:nC H)(hk:k.ok=true):dA M 17 #[k.val] H (sU (WA k.FG 32) H):=by
 refine .en func17 ntmps17 fun St c cs hK=> ?_;refine U2 ?_;refine .bo fun b1=> ?_;refine U7 ?_;refine .cl (fun H hs=> JC M H k (zA hG hs.base) hk) ?_;refine yI ?_;refine .e (Or.EA Gl.val Gl.bl (fun g:Gl 3 1=> g.l=WA k.FG 32) rfl rfl rfl rfl rfl dE tB (fun H hs=> .h (yP M H 32 _ k.FG dE (EW M H k (Lk.bL hk)))) (fun g hg=> ?_));refine U3 ?_;refine .rt hK func17 results17 [_,_] ?_;exact fun H' hs=> ⟨hs.base,g,rfl,hg,fun y hy=> ⟨hs.at_ y (by simp[hy]),hs.out y (by simp[hy])⟩⟩
theorem JK(k:Lk)(hk:k.ok=true)(b1:Nat)(hb:H b1=some (true,.cells ⟨k.val.cells.toList⟩ 40 (0,0))):gN M H (.func (.func 59) #[] #[.pointer (some ⟨b1,0,none⟩)]) 13 k.dS:=fun i hi H' hle=> by
 refine TC.of (first:= []) (captured:= [_]) aCs rfl ?_;have dP:=hle _ _ hb;refine .en func59 ntmps59 fun St c cs hK=> ?_;refine U8 ?_;refine .al fun b4=> ?_;refine U5 ?_;refine .x .ng ?_;refine fH ?_;refine .cl (fun H hs=> ZM M H (k.mv (i:Int)) (Lk.U1 hk oM oM)) ?_;refine fF ?_;refine .rt hK func59 results59 [_] ?_;exact fun H2 hs=> ⟨hs.base,rfl⟩
theorem ZW(k:Lk)(hG:nC H)(hk:k.ok=true):dA M 21 #[k.val] H (fun v H'=> H.le H'/\v=.tuple ⟨[.int .i64 k.fK,.int .i64 0]⟩):=by
 refine .en func21 ntmps21 fun St c cs hK=> ?_;refine U2 ?_;refine .bo fun b1=> ?_;refine U7 ?_;refine .cl (fun H hs=> JC M H k (zA hG hs.base) hk) ?_;refine fH ?_;cases hf:KB k.dS 13 with
 | none=>
  have hm:k.fK=12:=by unfold Lk.fK;rw[hf]
  refine U2 ?_;refine .cl (fun H hs=> dA.is (.tuple ⟨[.int .i64 0,.bool false]⟩) (by rewrite [hf];rfl) (nL M H 13 _ k.dS dE (JK M H k hk b1 (hs.get (i:=0) rfl)))) ?_;refine mN ?_;refine .rt hK func21 results21 [_,_] ?_;exact fun H' hs=> ⟨hs.base,by rw[hm];rfl⟩
 | some n=>
  have hm:k.fK=(n:Int)-1:=by unfold Lk.fK;rw[hf]
  have hn:=II hf;refine U2 ?_;refine .cl (fun H hs=> dA.is (.tuple ⟨[.int .i64 (n:Nat),.bool true]⟩) (by rewrite [hf];rfl) (nL M H 13 _ k.dS dE (JK M H k hk b1 (hs.get (i:=0) rfl)))) ?_;refine B5 ?_;refine .rt hK func21 results21 [_,_] ?_;exact fun H' hs=> ⟨hs.base,by rw[hm];rfl⟩
theorem BT(k:Lk)(hk:k.ok=true)(b1:Nat)(hb:H b1=some (true,.cells ⟨k.val.cells.toList⟩ 40 (0,0))):gN M H (.func (.func 61) #[] #[.pointer (some ⟨b1,0,none⟩)]) 41 k.TG:=fun i hi H' hle=> by
 refine TC.of (first:= []) (captured:= [_]) aCt rfl ?_;have dP:=hle _ _ hb;refine .en func61 ntmps61 fun St c cs hK=> ?_;refine U8 ?_;refine .al fun b4=> ?_;refine xK ?_;cases hw:(k.at (i:Int)).oU with
 | none=>
  refine U2 ?_;refine .cl (fun H hs=> dA.is (.tuple ⟨[.int .i64 0,.bool false]⟩) (by rewrite [hw];rfl) (ZM M H (k.at (i:Int)) (Lk.CU hk oM oM))) ?_;refine U7 ?_;by_cases h0:0<i
  ·have hg:k.TG i=true:=by unfold Lk.TG;rw[hw];simp[h0]
   refine U9 ?_;refine .rt hK func61 results61 [_] ?_;exact fun H2 hs=> ⟨hs.base,by rw[hg];rfl⟩
  ·have hg:k.TG i=false:=by unfold Lk.TG;simp[h0]
   refine U9 ?_;refine .rt hK func61 results61 [_] ?_;exact fun H2 hs=> ⟨hs.base,by rw[hg];rfl⟩
 | some c=>
  have hg:k.TG i=false:=by unfold Lk.TG;rw[hw];simp
  refine U2 ?_;refine .cl (fun H hs=> dA.is (.tuple ⟨[.int .i64 (c:Nat),.bool true]⟩) (by rewrite [hw];rfl) (ZM M H (k.at (i:Int)) (Lk.CU hk oM oM))) ?_;refine U7 ?_;by_cases h0:0<i
  ·refine U9 ?_;refine .rt hK func61 results61 [_] ?_;exact fun H2 hs=> ⟨hs.base,by rw[hg];rfl⟩
  ·refine U9 ?_;refine .rt hK func61 results61 [_] ?_;exact fun H2 hs=> ⟨hs.base,by rw[hg];rfl⟩
theorem I0(k:Lk)(hG:nC H)(hk:k.ok=true):dA M 22 #[k.val] H (sU (WA k.TG 41) H):=by
 refine .en func22 ntmps22 fun St c cs hK=> ?_;refine U2 ?_;refine .bo fun b1=> ?_;refine U7 ?_;refine .cl (fun H hs=> JC M H k (zA hG hs.base) hk) ?_;refine xK ?_;refine .e (Or.EA Gl.val Gl.bl (fun g:Gl 3 1=> g.l=WA k.TG 41) rfl rfl rfl rfl rfl dE tB (fun H hs=> .h (yP M H 41 _ k.TG dE (BT M H k hk b1 (hs.get (i:=0) rfl)))) (fun g hg=> ?_));refine U3 ?_;refine .rt hK func22 results22 [_,_] ?_;exact fun H' hs=> ⟨hs.base,g,rfl,hg,fun y hy=> ⟨hs.at_ y (by simp[hy]),hs.out y (by simp[hy])⟩⟩
end
end Go.Proofs.YtgkmnalhddmclaaGreatDoor
namespace Go.RL
open Go.Conc Go.ConcN Go.RL.Au
open Go.ConcR (stA smA mk)
open Go.ConcM (muA msA OsLater)
section
variable {P:Program}{X:Fk}{κ:Nat}
theorem Sat.left {H F:View}{w:World}(h:Sat (H.plus F) w):Sat H w:=fun b f o hb=> h b f o (tA hb)
theorem Qt.mono {K K':Goroutine->Prop}(hk:∀g,K g->K' g):∀ {n:Nat} {g:Goroutine},Qt P K n g->Qt P K' n g
 | 0,_,h=> hk _ h
 | _+1,_,⟨h1,g',h2,h3⟩=> ⟨h1,g',h2,Qt.mono hk h3⟩
theorem mO {H F:View}{c:Nat}{x:Bool×Obj}:(H.plus F).put c x=(H.put c x).plus (F.xA c):=by
 funext b
 by_cases e:b=c
 ·subst e;rw[View.pA,tA (View.pA ..)]
 ·rw[View.jA _ _ e];unfold View.plus;rw[View.jA _ _ e,KA e]
theorem Dj.aDk {H F:View}(h:Dj H F){c:Nat}{x:Bool×Obj}:Dj (H.put c x) (F.xA c):=fun b y hb=> by
 by_cases e:b=c
 ·subst e;simp[View.xA] at hb
 ·rw[KA e] at hb;rw[View.jA _ _ e];exact h b y hb
theorem T.less {M:Md P}{St:View->Goroutine->Prop}{H F:View}{g:Goroutine}(hc:∀H g F,Dj H F->St H g->St (H.plus F) g)(h:T M St H g)(hd:Dj H F):T M St (H.plus F) g:=
 (h.frame F hd).bind fun _ _ ⟨H',e,h1,h2⟩=> .stop (e▸hc H' _ F h1 h2)
theorem WS.less:∀(k:Nat) (t:Th) (D:Nat->Bool) (H:View) (g:Goroutine) (F:View),Dj H F->WS P X κ k t D H g->WS P X κ k t D (H.plus F) g
 | 0,_,_,_,_,_,_,_=> trivial
 | k + 1,t,D,H,g,F,hd,⟨h1,h2,h3,h4,h5,h6⟩=> by
  have hT:∀(t:Th) (D:Nat->Bool) (H F:View) (g:Goroutine),Dj H F->T (Mw P false X.ok) (WS P X κ k t D) H g->T (Mw P false X.ok) (WS P X κ k t D) (H.plus F) g:=fun t D H F g hd h=> T.less (fun H g F hd h=> WS.less k t D H g F hd h) h hd;refine⟨h1,fun e D' o hD ho w hw=> ?_,fun e=> ?_,fun e w hw=> ?_,h5,fun e w s hw hs ho hl hf=> ?_⟩
  ·obtain⟨g',h7,h8⟩:=h2 e D' o hD ho w hw.left;refine⟨g',h7,?_⟩;rw[mO];exact hT _ _ _ _ _ hd.aDk h8
  ·obtain⟨o,H',rfl,h7,h8,h9⟩:=h3 e;have hF:F X.C=none:=by
    cases hx:F X.C with
    | none=> rfl
    | some y=> have:=hd _ _ hx;rw[View.pA] at this;cases this
   have yJ:Dj H' F:=fun b x hb=> by
    have:=hd b x hb;have aB:b≠X.C:=by rintro rfl;rw[hF] at hb;cases hb
    rwa [View.jA _ _ aB] at this
   refine⟨o,H'.plus F,?_,?_,h8,fun w hw=> ?_⟩
   ·rw[mO]
    congr 1
    funext b
    by_cases e:b=X.C
    ·subst e;simp[View.xA,hF]
    ·rw[KA e]
   ·rw[GA h7,hF]
   ·obtain⟨g',Y5,h11⟩:=h9 w hw.left;exact⟨g',Y5,hT _ _ _ _ _ yJ h11⟩
  ·obtain⟨g',h7,n,h8⟩:=h4 e w hw.left;exact⟨g',h7,n,h8.mono fun g hg=> WS.less k _ _ _ _ _ hd hg⟩
  ·rcases h6 e w s hw.left hs ho hl hf with h7|⟨t',s',g',w',es,a1,a2,a3,a4,a5,a6,a7,a8,a9⟩
   ·exact .inl h7
   ·refine .inr ⟨t',s',g',w',es,a1,a2,a3,a4,a5,a6,a7,fun b1 b2=> ?_,fun b=> hT _ _ _ _ _ hd (a9 b)⟩;obtain⟨n,hn⟩:=a8 b1 b2;exact⟨n,hn.mono fun g hg=> WS.less k _ _ _ _ _ hd hg⟩
theorem Jw.less {k:Nat}{t:Th}{D:Nat->Bool}{H F:View}{g:Goroutine}(h:Jw P X κ k t D H g)(hd:Dj H F):Jw P X κ k t D (H.plus F) g:=
 ⟨h.1,fun e hm=> let ⟨n,hn⟩:=h.2.1 e hm;⟨n,hn.mono fun _ hg=> WS.less k _ _ _ _ _ hd hg⟩,fun hm=> T.less (fun H g F hd h=> WS.less k t D H g F hd h) (h.2.2 hm) hd⟩
theorem iQ {H:View}{b:Nat}:∃F,Dj (H.xA b) F/\(H.xA b).plus F=H:=by
 refine⟨fun c=> if c=b then H c else none,fun c x hc=> ?_,?_⟩
 ·by_cases e:c=b
  ·subst e;simp[View.xA]
  ·simp[e] at hc
 ·funext c
  by_cases e:c=b
  ·subst e;simp[View.plus,View.xA]
  ·simp[View.plus,View.xA,e]
   cases H c <;> rfl
theorem Jw.forget {k:Nat}{t:Th}{D:Nat->Bool}{H:View}(b:Nat){g:Goroutine}(h:Jw P X κ k t D (H.xA b) g):Jw P X κ k t D H g:=by
 obtain⟨F,h1,h2⟩:=iQ (H:=H) (b:=b);have:=h.less h1
 rwa [h2] at this
theorem TB.makeFunc {n:Nat}{sh:K0}{R:Rg}{o:Oper}{f:Fn}{first caps:Array Operand}{vs ws:List Value}(gA:o.op=.makeFunc f first caps)(h1:ZD R first.toList=some vs)(h2:ZD R caps.toList=some ws):TB P sh n R o (.func f vs.toArray ws.toArray):=fun tmps hr=> by
 unfold execOp;rw[gA];show Next.value _=_;have e1:first.map (vB tmps)=vs.toArray:=by
  rw[<-hr.evs h1,List.map_toArray.symm]
 have e2:caps.map (vB tmps)=ws.toArray:=by
  rw[<-hr.evs h2,List.map_toArray.symm]
 rw[e1,e2]
theorem T.none {M:Md P}{St:View->Goroutine->Prop}{C:Nat}{H:View}{g:Goroutine}(LB:∀w,M.ok w->C<w.heap.size)(hph:∀H g Po,¬M.Ph H g Po)(h:T M St H g):H C=Option.none->T M (fun H' g'=> H' C=Option.none/\St H' g') H g:=
 h (fun H g=> H C=Option.none->T M (fun H' g'=> H' C=Option.none/\St H' g') H g) (fun _ _ hs hc=> .stop ⟨hc,hs⟩) (fun H g hs hc=> .step ⟨hs.1,fun w hw ho=> by
  obtain⟨g',w',es,H',h1,h2,h3⟩:=hs.2 w hw ho;refine⟨g',w',es,H',h1,h2,h3 ?_⟩;cases hx:H' C with
  | none=> rfl
  | some x=>
   obtain⟨f,o⟩:=x;rcases h2.ext _ _ _ hx with ⟨o',VU⟩|⟨_,hle⟩
   ·rw[hc] at VU;cases VU
   ·have:=LB w ho;omega⟩) (fun _ _ _ hp=> (hph _ _ _ hp).elim)
theorem T.aBy {main:Bool}{St:View->Goroutine->Prop}{H:View}{g:Goroutine}(hc:H X.C=Option.none)(h:T (Mw P main X.ok) (fun H' g'=> H' X.C=Option.none->T (Mw P main X.ok) St H' g') H g):T (Mw P main X.ok) St H g:=
 (T.none (M:=Mw P main X.ok) (C:=X.C) (fun _ (h:X.ok _)=> h.1) (fun _ _ _ h=> h) h hc).bind fun _ _ ⟨h1,h2⟩=> h2 h1
theorem Sc.none {main:Bool}{St:View->Goroutine->Prop}{H:View}{n:Nat}{b:FB}{cs:List Frame}{R:Rg}{ds:List Deferred}{kk:List Item}(hc:H X.C=Option.none)
 (h:Sc (T (Mw P main X.ok) (fun H' g'=> H' X.C=Option.none->T (Mw P main X.ok) St H' g') H) n b cs R ds kk):Sc (T (Mw P main X.ok) St H) n b cs R ds kk:=fun tmps hr=> T.aBy hc (h tmps hr)
theorem Sc.hZ {main:Bool}{St:View->Goroutine->Prop}{H:View}{n:Nat}{b:FB}{cs:List Frame}{R:Rg}{ds:List Deferred}{kk:List Item}
 (h:H X.C=Option.none->Sc (T (Mw P main X.ok) St H) n b cs R ds kk):Sc (T (Mw P main X.ok) (fun H' g'=> H' X.C=Option.none->T (Mw P main X.ok) St H' g') H) n b cs R ds kk:=fun tmps hr=> .stop fun hc=> h hc tmps hr
theorem Sc.mono {J J':Goroutine->Prop}{n:Nat}{b:FB}{cs:List Frame}{R:Rg}{ds:List Deferred}{kk:List Item}(h:Sc J n b cs R ds kk)(hj:∀g,J g->J' g):Sc J' n b cs R ds kk:=fun tmps hr=> hj _ (h tmps hr)
end
end Go.RL
namespace Go.Proofs.YtgkmnalhddmclaaGreatDoor
open Go.RL Go.Proofs.Tryz
set_option maxRecDepth 10000
set_option maxHeartbeats 4000000
structure Ch where
 s0:Int
 s1:Int
 a0:Int
 a1:Int
 r0:Int
 r1:Int
 n:Nat
 x:Nat->Int
 y:Nat->Int
 z:Nat->Int
 u:Nat->Int
 m:Nat
 at_:Nat->Nat
def Ch.val(c:Ch)(lb lo lc ac:Nat)(A:Option Addr):Value:=
 .agg ⟨[.int .i64 c.s0,.int .i64 c.s1,.slice (some ⟨lb,lo,none⟩) c.n lc,.int .i64 c.a0,.int .i64 c.a1,.int .i64 c.r0,.int .i64 c.r1,.slice A c.m ac]⟩
structure Ch.Ok(c:Ch):Prop where
 n0:0<c.n
 n4:c.n<=4
 x:∀i,i<c.n-> -1000000<=c.x i/\c.x i<=1000000
 y:∀i,i<c.n-> -1000000<=c.y i/\c.y i<=1000000
 z:∀i,i<c.n-> -1000000<=c.z i/\c.z i<=1000000
 u:∀i,i<c.n-> -1000000<=c.u i/\c.u i<=1000000
 lt:∀i,i<c.m->c.at_ i+1<c.n
 mono:∀i,i+1<c.m->c.at_ i<c.at_ (i+1)
structure kG(H:View)(c:Ch)(lb lo lc:Nat)(A:Option Addr):Prop where
 ln:∃f gs gt gz,H lb=some (f,.cells ⟨gs⟩ gt gz)/\∀i:Nat,i<c.n->YB true 4 gs (lo+i*4)=some (CE (c.x i) (c.y i) (c.z i) (c.u i))
 lc:c.n<=lc
 at_:0<c.m->∃ab ao f gs gt gz,A=some ⟨ab,ao,none⟩/\H ab=some (f,.cells ⟨gs⟩ gt gz)/\∀i:Nat,i<c.m->YB false 1 gs (ao+i*1)=some (.int .i64 (c.at_ i:Nat))
theorem kG.le {H H':View}{c:Ch}{lb lo lc:Nat}{A:Option Addr}(h:kG H c lb lo lc A)(k:H.le H'):kG H' c lb lo lc A:=by
 obtain⟨⟨f,gs,gt,gz,h1,h2⟩,h3,h4⟩:=h;refine⟨⟨f,gs,gt,gz,k _ _ h1,h2⟩,h3,fun hm=> ?_⟩;obtain⟨ab,ao,f,gs,gt,gz,h5,h6,h7⟩:=h4 hm;exact⟨ab,ao,f,gs,gt,gz,h5,k _ _ h6,h7⟩
def Ch.fr(c:Ch)(i:Nat):Nat:=if i=0 then 0 else c.at_ (i-1)+1
def Ch.to(c:Ch)(i:Nat):Nat:=if i<c.m then c.at_ i+1 else c.n
def Ch.lk(c:Ch)(i:Nat):Lk:=
 ⟨if i=0 then c.s0 else c.a0,if i=0 then c.s1 else c.a1,if i<c.m then c.a0 else c.r0,if i<c.m then c.a1 else c.r1,
  IF (fun j=> c.x (c.fr i+j)) (c.to i-c.fr i),IF (fun j=> c.y (c.fr i+j)) (c.to i-c.fr i),IF (fun j=> c.z (c.fr i+j)) (c.to i-c.fr i),IF (fun j=> c.u (c.fr i+j)) (c.to i-c.fr i)⟩
def Ch.fits(c:Ch)(i:Nat):Bool:=(⟨0,0,0,0,(c.lk i).l0,(c.lk i).l1,(c.lk i).m0,(c.lk i).m1⟩:Lk).pH
theorem Ch.Ok.DY {c:Ch}(h:c.Ok):∀j i:Nat,i<j->j<c.m->c.at_ i<c.at_ j
 | 0,i,h1,_=> by omega
 | j+1,i,h1,h2=> by
  have h3:=h.mono j h2;by_cases e:i=j
  ·subst e;exact h3
  ·have:=h.DY j i oM oM;omega
theorem Ch.Ok.up {c:Ch}(h:c.Ok):∀j:Nat,j<c.m->j<=c.at_ j
 | 0,_=> by omega
 | j+1,h2=> by
  have h3:=h.mono j h2;have:=h.up j oM;omega
theorem Ch.Ok.P3 {c:Ch}(h:c.Ok):c.m<c.n:=by
 have h0:=h.n0;by_cases e:c.m=0
 ·omega
 ·have h1:=h.up (c.m-1) oM;have h2:=h.lt (c.m-1) oM;omega
theorem Ch.Ok.ends {c:Ch}(h:c.Ok){i:Nat}(hi:i<=c.m):c.fr i<c.to i/\c.to i<=c.n:=by
 unfold Ch.fr Ch.to;have h0:=h.n0;by_cases e:i=0
 ·rw[if_pos e];split
  ·have:=h.lt i oM;omega
  ·omega
 ·rw[if_neg e];have h1:=h.lt (i-1) oM;split
  ·have h2:=h.lt i oM;have:=h.DY i (i-1) oM oM;omega
  ·omega
section
variable {M:Md prog}{St:View->Goroutine->Prop}{n:Nat}{b:FB}{H₀:View}{cs:List Frame}{R:Rg}{L:Bl}{ds:List Deferred}{k:List Item}
theorem Tc.aAj {x y:Item}(F:Rg->Bl->Prop)(hF:∀R L,F R L->Tc M St n b H₀ cs R L ds k)(h:(∀R L,F R L->Tc M St n b H₀ cs R L ds k)->Tc M St n b H₀ cs R L ds (x::y::k)):Tc M St n b H₀ cs R L ds (x::y::k):=h hF
end
section
variable(M:Md prog)(H:View)
theorem sO(ch:Ch)(i lb lo lc ac:Nat)(A:Option Addr)(hc:ch.Ok)(hA:kG H ch lb lo lc A)(hi:i<=ch.m)(hG:nC H):
  dA M 104 #[ch.val lb lo lc ac A,.int .i64 i] H (fun v H'=> H.le H'/\v=.tuple ⟨[(ch.lk i).val,.bool (ch.fits i)]⟩):=by
 refine .en func104 ntmps104 fun St c cs hK=> ?_;have aA6:=hc.ends hi;have hm3:ch.at_ i+1<ch.n\/ch.m<=i:=by
  by_cases e:i<ch.m
  ·exact .inl (hc.lt i e)
  ·exact .inr oM
 have C6:=hc.n4;have hmn:=hc.P3;refine U2 ?_;refine .bo fun b2=> ?_;refine .al fun b4=> ?_;refine xK ?_;refine .al fun b6=> ?_;refine U3 ?_;refine Tc.dr [] [] mixed rfl ?_;refine V6 0 ?_;refine .dn ?_;refine U2 ?_;refine Tc.aAj (fun R' L'=> cC [(1,.int .i64 (i:Nat)),(2,.pointer (some ⟨b2,0,none⟩)),(4,.pointer (some ⟨b4,0,none⟩)),(6,.pointer (some ⟨b6,0,none⟩)),(7,.int .i64 (ch.fr i:Nat)),(8,.int .i64 (ch.n:Nat))] R'/\
  L'= [(b6,true,.cells ⟨[.int .i64 (ch.lk i).s0,.int .i64 (ch.lk i).s1,.int .i64 ch.r0,.int .i64 ch.r1,.int .i64 0,.int .i64 0,.int .i64 0,.int .i64 0]⟩ 112 (0,0)),(b4,true,.cells ⟨[.int .i64 0,.int .i64 0,.int .i64 0,.int .i64 0,.int .i64 0,.int .i64 0,.int .i64 0,.int .i64 0]⟩ 112 (0,0)),(b2,true,.cells ⟨(ch.val lb lo lc ac A).cells.toList⟩ 133 (0,0))]) ?_ (fun fin=> ?_)
 ·rintro R' L' ⟨hR,rfl⟩;refine Tc.TE ?_ hR (List.Sublist.refl _);refine U2 ?_;refine Tc.aAj (fun R' L'=> cC [(2,.pointer (some ⟨b2,0,none⟩)),(4,.pointer (some ⟨b4,0,none⟩)),(6,.pointer (some ⟨b6,0,none⟩)),(7,.int .i64 (ch.fr i:Nat)),(8,.int .i64 (ch.to i:Nat))] R'/\
   L'= [(b6,true,.cells ⟨[.int .i64 (ch.lk i).s0,.int .i64 (ch.lk i).s1,.int .i64 (ch.lk i).r0,.int .i64 (ch.lk i).r1,.int .i64 0,.int .i64 0,.int .i64 0,.int .i64 0]⟩ 112 (0,0)),(b4,true,.cells ⟨[.int .i64 0,.int .i64 0,.int .i64 0,.int .i64 0,.int .i64 0,.int .i64 0,.int .i64 0,.int .i64 0]⟩ 112 (0,0)),(b2,true,.cells ⟨(ch.val lb lo lc ac A).cells.toList⟩ 133 (0,0))]) ?_ (fun fin=> ?_)
  ·rintro R' L' ⟨hR,rfl⟩;refine Tc.TE ?_ hR (List.Sublist.refl _);obtain⟨f,gs,gt,gz,hA1,Z1⟩:=hA.ln;have hlc:=hA.lc;have hj:∀j:Nat,j<ch.to i-ch.fr i->YB true 4 gs ((lo+ch.fr i*4)+j*4)=some (CE (ch.x (ch.fr i+j)) (ch.y (ch.fr i+j)) (ch.z (ch.fr i+j)) (ch.u (ch.fr i+j))):=fun j hj=> by
    rw[show lo+ch.fr i*4+j*4=lo+(ch.fr i+j)*4 by omega];exact Z1 _ oM
   refine U7 ?_;refine .x (mA.slice (E:=en) (l:=(ch.fr i:Nat)) (h:=(ch.to i:Nat)) (off':=lo+ch.fr i*4) rfl rfl rfl rfl rfl rfl rfl rfl oM oM oM (by rw[if_neg oM];rfl)) ?_;refine .cl (fun H hs=> j8 M H lb (lo+ch.fr i*4) (ch.to i-ch.fr i) (lc-ch.fr i) f gs gt gz (fun j=> ch.x (ch.fr i+j)) (fun j=> ch.y (ch.fr i+j)) (fun j=> ch.z (ch.fr i+j)) (fun j=> ch.u (ch.fr i+j)) oM (hs.base _ _ hA1) hj (fun j hj=> hc.x _ oM) (fun j hj=> hc.y _ oM) (fun j hj=> hc.z _ oM) (fun j hj=> hc.u _ oM)) ?_;refine U5 ?_;cases hf:ch.fits i with
   | true=>
    refine Tc.dr [6] [1] mixed rfl ?_;refine .nn 0 ?_;refine .nw 1 ?_;refine .nw 2 ?_;refine .nw 3 ?_;refine .z 4 rfl (mA.tk fun H hs=> dA.mono (oF M H (ch.lk i).l0 (ch.lk i).l1 (ch.lk i).m0 (ch.lk i).m1 (zA hG hs.base)) (Q':=fun v H'=> H.le H'/\v=.int .i64 0) (by rintro v H' ⟨h1,h2⟩;unfold Ch.fits at hf;rw[hf] at h2;exact⟨h1,h2⟩)) ?_;refine .nw 5 ?_;refine .e 6 1 ?_;refine .nw 7 ?_;refine .dn ?_;refine .rt hK func104 results104 [_,_] ?_;exact fun H' hs=> ⟨hs.base,by rw[hf];rfl⟩
   | false=>
    refine Tc.dr [6] [1] mixed rfl ?_;refine .nn 0 ?_;refine .nw 1 ?_;refine .nw 2 ?_;refine .nw 3 ?_;refine .z 4 rfl (mA.tk fun H hs=> dA.mono (oF M H (ch.lk i).l0 (ch.lk i).l1 (ch.lk i).m0 (ch.lk i).m1 (zA hG hs.base)) (Q':=fun v H'=> H.le H'/\v=.int .i64 1) (by rintro v H' ⟨h1,h2⟩;unfold Ch.fits at hf;rw[hf] at h2;exact⟨h1,h2⟩)) ?_;refine .nw 5 ?_;refine .e 6 1 ?_;refine .nw 7 ?_;refine .dn ?_;refine .rt hK func104 results104 [_,_] ?_;exact fun H' hs=> ⟨hs.base,by rw[hf];rfl⟩
  ·by_cases h0:i<ch.m
   ·have e1:ch.to i=ch.at_ i+1:=if_pos h0;have e2:(ch.lk i).r0=ch.a0:=if_pos h0;have e3:(ch.lk i).r1=ch.a1:=if_pos h0;obtain⟨ab,ao,f,gs,gt,gz,rfl,hA3,hA4⟩:=hA.at_ oM;have hld:YB false 1 gs (ao+((i:Nat):Int).toNat*1)=some (.int .i64 (ch.at_ i:Nat)):=hA4 i h0;have iB:=hc.lt i h0;refine U8 ?_;refine Tc.dr [11] [0] mixed rfl ?_;refine V3 0 ?_;refine .nw 3 ?_;refine .nw 4 ?_;refine .nw 5 ?_;refine .nw 6 ?_;refine .nw 7 ?_;refine .nw 8 ?_;refine .nw 9 ?_;refine .nn 10 ?_;refine .e 11 0 ?_;refine .nw 12 ?_;refine .dn ?_;refine fin _ _ ⟨?_,?_⟩
    ·rw[e1];refine⟨rfl,?_⟩;refine⟨rfl,?_⟩;refine⟨rfl,?_⟩;refine⟨rfl,?_⟩;refine⟨rfl,?_⟩;exact trivial
    ·rw[e2,e3];rfl
   ·have e1:ch.to i=ch.n:=if_neg h0;have e2:(ch.lk i).r0=ch.r0:=if_neg h0;have e3:(ch.lk i).r1=ch.r1:=if_neg h0;refine U9 ?_;refine fin _ _ ⟨?_,?_⟩
    ·rw[e1];refine⟨rfl,?_⟩;refine⟨rfl,?_⟩;refine⟨rfl,?_⟩;refine⟨rfl,?_⟩;refine⟨rfl,?_⟩;exact trivial
    ·rw[e2,e3]
 ·by_cases h0:i=0
  ·subst h0;refine U6 ?_;exact fin _ _ ⟨⟨rfl,rfl,rfl,rfl,rfl,rfl,trivial⟩,rfl⟩
  ·have e1:ch.fr i=ch.at_ (i-1)+1:=if_neg h0;have e2:(ch.lk i).s0=ch.a0:=if_neg h0;have e3:(ch.lk i).s1=ch.a1:=if_neg h0;obtain⟨ab,ao,f,gs,gt,gz,rfl,hA3,hA4⟩:=hA.at_ oM;have hld:YB false 1 gs (ao+(((i:Nat):Int)-1).toNat*1)=some (.int .i64 (ch.at_ (i-1):Nat)):=by
    rw[show(((i:Nat):Int)-1).toNat=i-1 by omega];exact hA4 (i-1) oM
   have iB:=hc.lt (i-1) oM;refine U5 ?_;refine Tc.dr [12] [0] mixed rfl ?_;refine V3 0 ?_;refine .nw 3 ?_;refine .nw 4 ?_;refine .nw 5 ?_;refine .nw 6 ?_;refine .nw 7 ?_;refine .nw 8 ?_;refine .nw 9 ?_;refine .nw 10 ?_;refine .nn 11 ?_;refine .e 12 0 ?_;refine .nw 13 ?_;refine .dn ?_;refine fin _ _ ⟨?_,?_⟩
   ·rw[e1];refine⟨rfl,?_⟩;refine⟨rfl,?_⟩;refine⟨rfl,?_⟩;refine⟨rfl,?_⟩;refine⟨rfl,?_⟩;refine⟨rfl,?_⟩;exact trivial
   ·rw[e2,e3];rfl
end
def Lk.seen(k:Lk)(c:Nat):Nat:=((List.range 128).filter (k.iF c)).length
def Lk.rJ(k:Lk)(c:Nat):Int:=if k.iF c (xB c) then(if k.seen c=1 then 1 else 0) else 2
theorem QT:∀c:Nat,c<32->xB c<128:=by decide +kernel
theorem rM {α:Type} [DecidableEq α]:∀ {l m:List α},l.Nodup->(∀x∈l,x∈m)->l.length<=m.length
 | [],_,_,_=> by simp
 | x::l,m,h1,h2=> by
  obtain⟨h3,h4⟩:=List.nodup_cons.1 h1;have hx:=h2 x List.mem_cons_self;have h5:=rM (m:=m.erase x) h4 fun y hy=> (List.mem_erase_of_ne (by rintro rfl;exact h3 hy)).2 (h2 y (List.mem_cons_of_mem _ hy));have h6:=List.length_erase_of_mem hx;have h7:=List.length_pos_of_mem hx;simp only[List.length_cons];omega
theorem yW {K:Nat->Bool}{es:Array MapEntry}{cl:Nat}(h:MB es cl (vF K)):es.size=((List.range 128).filter K).length:=by
 classical
 have e1:es.size=(es.toList.map (·.key)).length:=by simp
 have e2:((List.range 128).filter K).length=(((List.range 128).filter K).map fun u=> Value.int .u8 (u:Nat)).length:=by simp
 rw[e1,e2];refine Nat.le_antisymm (rM h.keys fun x hx=> ?_) (rM ?_ fun x hx=> ?_)
 ·obtain⟨e,he,rfl⟩:=List.mem_map.1 hx;obtain⟨_,u,h1,h2,h3⟩:=(h.mem e.key e.val).2 ⟨e,he,rfl,rfl⟩;exact List.mem_map.2 ⟨u,List.mem_filter.2 ⟨List.mem_range.2 h1,h3⟩,h2.symm⟩
 ·rw[List.nodup_iff_pairwise_ne,List.pairwise_map];refine List.Pairwise.imp ?_ (List.Pairwise.filter K (List.nodup_iff_pairwise_ne.1 List.nodup_range));intro a b p6 e;simp only[Value.int.injEq,true_and,Int.natCast_inj] at e;exact p6 e
 ·obtain⟨u,hu,rfl⟩:=List.mem_map.1 hx;obtain⟨h1,h2⟩:=List.mem_filter.1 hu;obtain⟨e,he,h3,_⟩:=(h.mem (.int .u8 (u:Nat)) (.bool true)).1 ⟨rfl,u,List.mem_range.1 h1,rfl,h2⟩;exact List.mem_map.2 ⟨e,he,h3⟩
def aAu(o:Option (Int×Int×Int×List Int))(H:View)(v:Value)(H':View):Prop:=H.le H'/\
 match o with
 | none=> v=.tuple ⟨[.agg ⟨[.int .i64 0,.int .i64 0,.int .i64 0,.slice none 0 0]⟩,.bool false,.int .i64 0]⟩
 | some (s,r,n,mv)=> ∃g:Gl 3 1,v=.tuple ⟨[zM s r n g,.bool true,.int .i64 0]⟩/\g.l=kA mv/\∀y∈g.bl,H' y.1=some y.2/\H y.1=none
section
variable(M:Md prog)(H:View)
theorem AT(k:Lk)(code:Nat)(hG:nC H)(hk:k.ok=true)(hc:code<32):dA M 52 #[k.val,.int .i64 code] H (fun v H'=> H.le H'/\∃x:Nat×Nat×List Value,v=.tuple ⟨[k.val,YG code x,.int .i64 0]⟩/\True/\∀y∈FF code x,H' y.1=some y.2/\H y.1=none):=
 dA.mono (xR M H k code hG hk hc) (by
  rintro v H' ⟨h2,g,rfl,⟨h3,h4⟩,h5⟩;obtain⟨b,hb⟩:=oL g (by rw[h3];exact(wD code hc).1);refine⟨h2,(b,g.cap,g.vE),?_,trivial,fun y hy=> h5 y ?_⟩
  ·unfold xL YG Gl.val;rw[hb,h3];rfl
  ·unfold Gl.bl;rw[hb,h4];exact hy)
theorem Q0(k:Lk)(code:Nat)(hG:nC H)(hk:k.ok=true)(hc:code<32):dA M 20 #[k.val,.int .i64 code] H (aAu (k.CC code) H):=by
 refine .en func20 ntmps20 fun St c cs hK=> ?_;refine U2 ?_;refine .bo fun b2=> ?_;refine .al fun b4=> ?_;refine U7 ?_;refine .e (Or.EA (fun x=> .tuple ⟨[k.val,YG code x,.int .i64 0]⟩) (FF code) (fun _=> True) rfl rfl rfl rfl rfl dE (VB code) (fun H hs=> .h (AT M H k code (zA hG hs.base) hk hc)) (fun x hx=> ?_));refine U4 ?_;refine .al fun b7=> ?_;refine .al fun b8=> ?_;refine yK ?_;cases hw:k.CC code with
 | none=>
  refine U3 ?_;refine .cl (fun H hs=> dA.mono (zF M H k (Lk.bL hk) code x.1 x.2.1 hc (mD fun y hy=> hs.at_ y (by simp[hy]))) (Q':=fun v H'=> H.le H'/\v=.tuple ⟨[.agg ⟨[.int .i64 0,.int .i64 0,.int .i64 0,.slice none 0 0]⟩,.bool false]⟩) (by rintro v H' ⟨h1,h2⟩;rw[hw] at h2;exact⟨h1,h2⟩)) ?_;refine yI ?_;refine .rt hK func20 results20 [_,_,_] ?_;exact fun H' hs=> ⟨hs.base,by rw[hw];rfl⟩
 | some w=>
  obtain⟨s,r,n,mv⟩:=w;refine U3 ?_;refine .e (Or.EA (fun g:Gl 3 1=> .tuple ⟨[zM s r n g,.bool true]⟩) Gl.bl (fun g=> g.l=kA mv) rfl rfl rfl rfl rfl dE tB (fun H hs=> .h (dA.mono (zF M H k (Lk.bL hk) code x.1 x.2.1 hc (mD fun y hy=> hs.at_ y (by simp[hy]))) (by rintro v H' ⟨h1,h2⟩;rw[hw] at h2;obtain⟨g,h3,h4,h5⟩:=h2;exact⟨h1,g,h3,h4,h5⟩))) (fun g hg=> ?_));refine yI ?_;refine .rt hK func20 results20 [_,_,_] ?_;exact fun H' hs=> ⟨hs.base,by rw[hw];exact⟨g,rfl,hg,fun y hy=> ⟨hs.at_ y (by simp[hy]),hs.out y (by simp[hy])⟩⟩⟩
theorem J0(k:Lk)(code:Nat)(hG:nC H)(hk:k.ok=true)(hc:code<32):dA M 18 #[k.val,.int .i64 code] H (fun v H'=> H.le H'/\v=.tuple ⟨[.int .i64 (k.rJ code),.int .i64 0]⟩):=by
 refine .en func18 ntmps18 fun St c cs hK=> ?_;refine U2 ?_;refine .bo fun b2=> ?_;refine U7 ?_;refine .e (Or.EA (fun x=> .tuple ⟨[k.val,YG code x,.int .i64 0]⟩) (FF code) (fun _=> True) rfl rfl rfl rfl rfl dE (VB code) (fun H hs=> .h (AT M H k code (zA hG hs.base) hk hc)) (fun x hx=> ?_));refine U4 ?_;refine .al fun b6=> ?_;refine .al fun b7=> ?_;refine PW ?_;refine .e (Or.EA (fun y:Nat×Array MapEntry×Nat=> .map (some y.1)) (fun y=> [(y.1,true,.map y.2.1 y.2.2)]) (fun y=> MB y.2.1 y.2.2 (vF (k.iF code))) rfl rfl rfl rfl rfl dE (fun _=> by simp) (fun H hs=> .h (dA.mono (uU M H k (Lk.bL hk) code x.1 x.2.1 hc (mD fun y hy=> hs.at_ y (by simp[hy]))) (by rintro v H' ⟨h1,m,es,cl,h2,h3,h4,h5⟩;exact⟨h1,(m,es,cl),h2,h5,by simp[h3,h4]⟩))) (fun y hm=> ?_));refine U2 ?_;obtain⟨m,es,cl⟩:=y;have hrt:=QT code hc;have KG:∀r,AF es.toList (.int .u8 (xB code:Nat)) r->QS (.bool false) r false=.bool (k.iF code (xB code)):=by
  intro r hr;have hf:=MB.find hm hr;cases r with
  | none=>
   simp only at hf;cases B3:k.iF code (xB code) with
   | false=> rfl
   | true=> exact(hf (.bool true) ⟨rfl,xB code,hrt,rfl,B3⟩).elim
  | some p=>
   obtain⟨j,v⟩:=p;obtain⟨rfl,u,h1,h2,h3⟩:=hf;simp only[Value.int.injEq,true_and,Int.natCast_inj] at h2;subst h2;rw[h3];rfl
 have HD:=yW hm;refine U2 ?_;cases B3:k.iF code (xB code) with
 | false=>
  rw[B3] at KG;have HB:k.rJ code=2:=by unfold Lk.rJ;rw[B3];rfl
  refine U3 ?_;refine .cl (fun H hs=> NP M H code _ hc) ?_;refine .x (mA.lookup (E:=en) (v:=.bool false) 1 rfl rfl rfl (fun H hs=> ⟨true,hs.at_ (m,true,.map es cl) (by simp)⟩) rfl rfl rfl dE (QJ _) (cQ hm) KG) ?_;refine U9 ?_;refine .rt hK func18 results18 [_,_] ?_;exact fun H' hs=> ⟨hs.base,by rw[HB];rfl⟩
 | true=>
  rw[B3] at KG;refine U3 ?_;refine .cl (fun H hs=> NP M H code _ hc) ?_;refine .x (mA.lookup (E:=en) (v:=.bool true) 1 rfl rfl rfl (fun H hs=> ⟨true,hs.at_ (m,true,.map es cl) (by simp)⟩) rfl rfl rfl dE (QJ _) (cQ hm) KG) ?_;refine U7 ?_;refine .x (mA.q8 (E:=en) (es:=es) (cl₀:=cl) rfl rfl rfl rfl rfl (fun H hs=> ⟨true,hs.at_ (m,true,.map es cl) (by simp)⟩) rfl rfl) ?_;by_cases h1:es.size=1
  ·have HB:k.rJ code=1:=by unfold Lk.rJ Lk.seen;rw[B3,<-HD,h1];rfl
   refine U9 ?_;refine .rt hK func18 results18 [_,_] ?_;exact fun H' hs=> ⟨hs.base,by rw[HB];rfl⟩
  ·have HB:k.rJ code=0:=by unfold Lk.rJ Lk.seen;rw[B3,<-HD,if_pos rfl,if_neg h1]
   refine fF ?_;refine .rt hK func18 results18 [_,_] ?_;exact fun H' hs=> ⟨hs.base,by rw[HB];rfl⟩
end
theorem R1(code:Nat)(x:Nat×Nat×List Value)(j:Nat)(hj:j<(bA code 7).length):YB true 2 (qB (bA code 7)++x.2.2) (0+j*2)=some (FD ((bA code 7)[j]?.getD 0) j):=by
 obtain⟨f,es,et,ez,h1,h2⟩:=mD (H:=View.put (fun _=> none) x.1 (true,.cells ⟨qB (bA code 7)++x.2.2⟩ 108 (0,0))) (code:=code) (x:=x) (fun y hy=> by
  simp only[FF,List.mem_singleton] at hy;subst hy;exact View.pA ..)
 rw[View.pA] at h1;simp only[Option.some.injEq,Prod.mk.injEq,Obj.cells.injEq,Array.mk.injEq] at h1;obtain⟨_,rfl,_⟩:=h1;exact h2 j hj
def EB(l:List Nat):List Value:=l.map fun p=> .int .i64 (p:Nat)
theorem LP(l:List Nat)(j:Nat)(h:j<l.length):EB (l.take (j+1))=EB (l.take j)++[.int .i64 ((l[j]?.getD 0:Nat):Int)]:=by
 unfold EB;rw[List.take_succ_eq_append_getElem h,List.map_append,List.getElem?_eq_getElem h];rfl
section
variable(M:Md prog)(H:View)
theorem WZ(code:Nat)(hc:code<32):dA M 16 #[.int .i64 code] H (sU (EB (bA code 7)) H):=by
 refine .en func16 ntmps16 fun St c cs hK=> ?_;have eM:=(wD code hc).2.1;refine U9 ?_;refine .cl (fun H hs=> iM M H code oM) ?_;refine xK ?_;refine .e (Or.EA (YG code) (FF code) (fun _=> True) rfl rfl rfl rfl rfl dE (VB code) (fun H hs=> .h (ZE M H code hc)) (fun x hx=> ?_));refine U5 ?_;refine Tc.db (Tc.IA (σ:= { s:Nat×Gl 3 1//s.1<=(bA code 7).length/\s.2.l=EB ((bA code 7).take s.1) })
  (fun s=> ([(14,.int .i64 (s.1.1:Nat)),(13,.int .i64 ((bA code 7).length:Nat)),(12,.slice (some ⟨x.1,0,none⟩) (bA code 7).length x.2.1),(4,s.1.2.val)],FF code x++s.1.2.bl)) (fun s=> (bA code 7).length-s.1.1) ?_ ⟨(0,Gl.nil 3 1),by simp,rfl⟩)
 rintro⟨⟨j,g⟩,g1,g2⟩ ih;simp only at g1 g2;have hlen:g.n=j:=by
  have h1:=g.hl;rw[g2] at h1;unfold EB at h1;rw[List.length_map,List.length_take] at h1;omega
 show Tc M St _ _ _ _ [(14,.int .i64 (j:Nat)),(13,.int .i64 ((bA code 7).length:Nat)),(12,.slice (some ⟨x.1,0,none⟩) (bA code 7).length x.2.1),(4,g.val)] (FF code x++g.bl) _ _;by_cases c1:j=(bA code 7).length
 ·subst c1;refine yK ?_;refine .rt hK func16 results16 [_,_] ?_;exact fun H' hs=> ⟨hs.base,g,rfl,by rw[g2,List.take_length],fun y hy=> ⟨hs.at_ y (by simp[hy]),hs.out y (by simp[hy])⟩⟩
 ·have c2:j<(bA code 7).length:=by omega
  have f1:YB true 2 (qB (bA code 7)++x.2.2) (0+(j:Int).toNat*2)=some (FD ((bA code 7)[j]?.getD 0) j):=by rw[show(j:Int).toNat=j by simp];exact R1 code x j c2
  refine yK ?_;refine .al fun b6=> ?_;refine U6 ?_;refine .e (.bs (zz:=fun bs=> ?_));refine .e (Or.append (E:=en) 3 rfl rfl rfl rfl rfl rfl rfl rfl rfl rfl rfl rfl rfl rfl rfl (fun H hs=> gB.of (hs.get (i:=0) rfl) (Nat.le_of_ble_eq_true rfl)) rfl oM rfl dE (fun g' hn hl=> ?_));refine U7 ?_;exact Tc.db (ih ⟨(j+1,g'),by simp only;omega,by simp only;rw[hl,g2,LP _ _ c2];rfl⟩ (by simp only;omega))
theorem aAg:prog.underlying 9=some .string:=by kernel_rfl
theorem E0:dA M 134 #[.int .u64 0] H (fun v H'=> H.le H'/\v=.int .i64 0):=by
 refine .en func134 ntmps134 fun St c cs hK=> ?_;refine U33 ?_;refine .x (mA.AJ (c:=0) rfl rfl rfl aAg dE (by decide +kernel)) ?_;refine U4 ?_;refine .rt hK func134 results134 [_] ?_;exact okB
theorem F0:dA M 134 #[.int .u64 1] H (fun v H'=> H.le H'/\v=.int .i64 1):=by
 refine .en func134 ntmps134 fun St c cs hK=> ?_;refine U33 ?_;refine .x (mA.AJ (c:=1) rfl rfl rfl aAg dE (by decide +kernel)) ?_;refine U4 ?_;refine .rt hK func134 results134 [_] ?_;exact okB
theorem nT(sv:Option Addr)(n cap:Nat)(hn:n<=1):dA M 124 #[.slice sv n cap,.int .i64 0,.int .i64 n] H (fun v H'=> H.le H'/\v=.tuple ⟨[]⟩):=by
 refine .en func124 ntmps124 fun St c cs hK=> ?_;refine U5 ?_;refine .done (.block (.loop (.seq (.sr ?_))));refine U6 ?_;refine .ov hK func124 results124 [] ?_;exact okB
theorem kV(sv:Option Addr)(n cap:Nat)(li:Int)(hn:n<=1):dA M 91 #[.slice sv n cap,.int .i64 0,.int .i64 n,.int .i64 li] H (fun v H'=> H.le H'/\v=.tuple ⟨[]⟩):=by
 refine .en func91 ntmps91 fun St c cs hK=> ?_;refine U7 ?_;refine .done (.block (.loop (.block (.sr ?_))));refine PW ?_;refine .cl (fun H hs=> nT M H sv n cap hn) ?_;refine U ?_;refine .rt hK func91 results91 [] ?_;exact okB
theorem dX(sv:Option Addr)(n cap:Nat)(hn:n<=1):dA M 56 #[.slice sv n cap] H (fun v H'=> H.le H'/\v=.tuple ⟨[]⟩):=by
 rcases(by omega:n=0\/n=1) with rfl|rfl
 ·have hlen:∀H,dA M 92 #[.int .u64 0] H (fun v H'=> H.le H'/\v=.int .i64 0):=fun H=> by
   refine .en func92 ntmps92 fun St c cs hK=> ?_;refine fH ?_;refine .cl (fun H hs=> E0 M H) ?_;refine U2 ?_;refine .rt hK func92 results92 [_] ?_;exact okB
  refine .en func56 ntmps56 fun St c cs hK=> ?_;refine fF ?_;refine .cl (fun H hs=> hlen H) ?_;refine .cl (fun H hs=> kV M H sv 0 cap 0 oM) ?_;refine U ?_;refine .ov hK func56 results56 [] ?_;exact okB
 ·have hlen:∀H,dA M 92 #[.int .u64 1] H (fun v H'=> H.le H'/\v=.int .i64 1):=fun H=> by
   refine .en func92 ntmps92 fun St c cs hK=> ?_;refine fH ?_;refine .cl (fun H hs=> F0 M H) ?_;refine U2 ?_;refine .rt hK func92 results92 [_] ?_;exact okB
  refine .en func56 ntmps56 fun St c cs hK=> ?_;refine fF ?_;refine .cl (fun H hs=> hlen H) ?_;refine .cl (fun H hs=> kV M H sv 1 cap 1 oM) ?_;refine U ?_;refine .ov hK func56 results56 [] ?_;exact okB
end
structure Ch.Good(c:Ch):Prop where
 ok:c.Ok
 s:oB c.s0 c.s1=true
 a:oB c.a0 c.a1=true
 r:oB c.r0 c.r1=true
 ln:∀i,i<c.n->(⟨0,0,0,0,c.x i,c.y i,c.z i,c.u i⟩:Lk).pH=true
theorem Ch.Good.bL {c:Ch}(h:c.Good)(i:Nat)(hf:c.fits i=true):(c.lk i).ok=true:=by
 have hs:(c.lk i).sends=true:=by
  show oB (if i=0 then c.s0 else c.a0) (if i=0 then c.s1 else c.a1)=true;by_cases e:i=0
  ·rw[if_pos e,if_pos e];exact h.s
  ·rw[if_neg e,if_neg e];exact h.a
 have hr:(c.lk i).reads=true:=by
  show oB (if i<c.m then c.a0 else c.r0) (if i<c.m then c.a1 else c.r1)=true;by_cases e:i<c.m
  ·rw[if_pos e,if_pos e];exact h.a
  ·rw[if_neg e,if_neg e];exact h.r
 unfold Ch.fits at hf;simp only[Lk.pH,xC,Lk.D1,Bool.true_and,Bool.and_eq_true] at hf;obtain⟨h1,h2⟩:=hf;have h1':(c.lk i).gR=true:=h1;have h2':(c.lk i).rR=true:=h2;simp[Lk.ok,xC,Lk.D1,hs,hr,h1',h2']
def Ch.ZI(c:Ch)(lb lo lc:Nat):Value:=.agg ⟨[.int .i64 c.s0,.int .i64 c.s1,.slice (some ⟨lb,lo,none⟩) c.n lc,.int .i64 c.a0,.int .i64 c.a1,.int .i64 c.r0,.int .i64 c.r1]⟩
section
variable(M:Md prog)(H:View)
theorem XC(a b:Int)(h:oB a b=true):dA M 71 #[WB a b] H (fun v H'=> H.le H'/\v=.bool true):=
 dA.mono (UH M H a b) (by rintro v H' ⟨h1,h2⟩;exact⟨h1,h2.trans (congrArg Value.bool h)⟩)
theorem PL(x y z u:Int)(hG:nC H)(h:(⟨0,0,0,0,x,y,z,u⟩:Lk).pH=true):dA M 111 #[CE x y z u] H (fun v H'=> H.le H'/\v=.int .i64 0):=
 dA.mono (oF M H x y z u hG) (by rintro v H' ⟨h1,h2⟩;rw[h] at h2;exact⟨h1,h2⟩)
theorem ZK(ch:Ch)(lb lo lc:Nat)(A:Option Addr)(hA:kG H ch lb lo lc A)(hg:ch.Good)(hG:nC H):
  dA M 72 #[.slice (some ⟨lb,lo,none⟩) ch.n lc] H (fun v H'=> H.le H'/\v=.int .i64 0):=by
 refine .en func72 ntmps72 fun St c cs hK=> ?_;obtain⟨f,gs,gt,gz,hA1,Z1⟩:=hA.ln;have Y2:=hg.ok.n0;have C6:=hg.ok.n4;refine U26 ?_;refine Tc.db (Tc.IA (σ:= { j:Nat//j<=ch.n }) (fun j=> ([(14,.slice (some ⟨lb,lo,none⟩) ch.n lc),(15,.int .i64 (ch.n:Nat)),(16,.int .i64 (j.1:Nat)),(2,.int .i64 0)],[])) (fun j=> ch.n-j.1) ?_ ⟨0,oM⟩);rintro⟨j,hj⟩ ih;show Tc M St _ _ _ _ [(14,.slice (some ⟨lb,lo,none⟩) ch.n lc),(15,.int .i64 (ch.n:Nat)),(16,.int .i64 (j:Nat)),(2,.int .i64 0)] [] _ _;by_cases c1:j=ch.n
 ·subst c1;refine fF ?_;refine .rt hK func72 results72 [_] ?_;exact okB
 ·have c2:j<ch.n:=by omega
  have f1:YB true 4 gs (lo+(j:Int).toNat*4)=some (CE (ch.x j) (ch.y j) (ch.z j) (ch.u j)):=by rw[show(j:Int).toNat=j by simp];exact Z1 j c2
  refine yK ?_;refine .al fun b4=> ?_;refine U5 ?_;refine .cl (fun H hs=> PL M H (ch.x j) (ch.y j) (ch.z j) (ch.u j) (zA hG hs.base) (hg.ln j c2)) ?_;refine yI ?_;exact Tc.db (ih ⟨j+1,oM⟩ (by simp only;omega))
theorem HG(ch:Ch)(lb lo lc:Nat)(A:Option Addr)(hA:kG H ch lb lo lc A)(hg:ch.Good)(hG:nC H):
  dA M 30 #[ch.ZI lb lo lc] H (fun v H'=> H.le H'/\v=.int .i64 0):=by
 refine .en func30 ntmps30 fun St c cs hK=> ?_;refine U2 ?_;refine .bo fun b1=> ?_;refine AV ?_;refine Tc.db (Tc.IA (σ:= { j:Nat//j<=3 }) (fun j=> ([(11,.agg ⟨[.int .i64 ch.s0,.int .i64 ch.s1,.int .i64 ch.a0,.int .i64 ch.a1,.int .i64 ch.r0,.int .i64 ch.r1]⟩),(1,.pointer (some ⟨b1,0,none⟩)),(12,.int .i64 (j.1:Nat)),(2,.int .i64 0)],[(b1,true,.cells ⟨(ch.ZI lb lo lc).cells.toList⟩ 26 (0,0))])) (fun j=> 3-j.1) ?_ ⟨0,oM⟩);rintro⟨j,hj⟩ ih;show Tc M St _ _ _ _ [(11,.agg ⟨[.int .i64 ch.s0,.int .i64 ch.s1,.int .i64 ch.a0,.int .i64 ch.a1,.int .i64 ch.r0,.int .i64 ch.r1]⟩),(1,.pointer (some ⟨b1,0,none⟩)),(12,.int .i64 (j:Nat)),(2,.int .i64 0)] [(b1,true,.cells ⟨(ch.ZI lb lo lc).cells.toList⟩ 26 (0,0))] _ _;rcases(by omega:j=0\/j=1\/j=2\/j=3) with rfl|rfl|rfl|rfl
 ·refine fF ?_;refine .x (mA.index (E:=en) rfl rfl rfl rfl rfl rfl oM oM (by exact rfl)) ?_;refine .al fun b4=> ?_;refine U5 ?_;refine .cl (fun H hs=> XC M H ch.s0 ch.s1 hg.s) ?_;refine U9 ?_;exact Tc.db (ih ⟨1,oM⟩ (by simp))
 ·refine fF ?_;refine .x (mA.index (E:=en) rfl rfl rfl rfl rfl rfl oM oM (by exact rfl)) ?_;refine .al fun b4=> ?_;refine U5 ?_;refine .cl (fun H hs=> XC M H ch.a0 ch.a1 hg.a) ?_;refine U9 ?_;exact Tc.db (ih ⟨2,oM⟩ (by simp))
 ·refine fF ?_;refine .x (mA.index (E:=en) rfl rfl rfl rfl rfl rfl oM oM (by exact rfl)) ?_;refine .al fun b4=> ?_;refine U5 ?_;refine .cl (fun H hs=> XC M H ch.r0 ch.r1 hg.r) ?_;refine U9 ?_;exact Tc.db (ih ⟨3,oM⟩ (by simp))
 ·refine fF ?_;refine .cl (fun H hs=> ZK M H ch lb lo lc A (hA.le hs.base) hg (zA hG hs.base)) ?_;refine U2 ?_;refine .rt hK func30 results30 [_] ?_;exact okB
theorem uM(ch:Ch)(lb lo lc ac:Nat)(A:Option Addr)(hA:kG H ch lb lo lc A)(hg:ch.Good)(hG:nC H):
  dA M 66 #[ch.ZI lb lo lc,.slice A ch.m ac] H (fun v H'=> H.le H'/\v=.tuple ⟨[ch.val lb lo lc ac A,.int .i64 0]⟩):=by
 refine .en func66 ntmps66 fun St c cs hK=> ?_;have Y2:=hg.ok.n0;have C6:=hg.ok.n4;have hmn:=hg.ok.P3;refine U2 ?_;refine .bo fun b2=> ?_;refine .al fun b4=> ?_;refine U6 ?_;refine .cl (fun H hs=> HG M H ch lb lo lc A (hA.le hs.base) hg (zA hG hs.base)) ?_;refine PW ?_;refine Tc.db (Tc.IA (σ:= { j:Nat//j<=ch.m }) (fun j=> ([(1,.slice A ch.m ac),(2,.pointer (some ⟨b2,0,none⟩)),(4,.pointer (some ⟨b4,0,none⟩)),(15,.slice A ch.m ac),(16,.int .i64 (ch.m:Nat)),(17,.int .i64 (j.1:Nat))],
  [(b4,true,.cells ⟨[.int .i64 0,.int .i64 0,.slice none 0 0,.int .i64 0,.int .i64 0,.int .i64 0,.int .i64 0,.slice none 0 0]⟩ 133 (0,0)),(b2,true,.cells ⟨(ch.ZI lb lo lc).cells.toList⟩ 26 (0,0))])) (fun j=> ch.m-j.1) ?_ ⟨0,oM⟩)
 rintro⟨j,hj⟩ ih;show Tc M St _ _ _ _ [(1,.slice A ch.m ac),(2,.pointer (some ⟨b2,0,none⟩)),(4,.pointer (some ⟨b4,0,none⟩)),(15,.slice A ch.m ac),(16,.int .i64 (ch.m:Nat)),(17,.int .i64 (j:Nat))]
  [(b4,true,.cells ⟨[.int .i64 0,.int .i64 0,.slice none 0 0,.int .i64 0,.int .i64 0,.int .i64 0,.int .i64 0,.slice none 0 0]⟩ 133 (0,0)),(b2,true,.cells ⟨(ch.ZI lb lo lc).cells.toList⟩ 26 (0,0))] _ _
 by_cases c1:j=ch.m
 ·subst c1;refine AV ?_;refine .rt hK func66 results66 [_,_] ?_;exact okB
 ·have c2:j<ch.m:=by omega
  obtain⟨ab,ao,f,gs,gt,gz,rfl,hA3,hA4⟩:=hA.at_ oM;have f1:YB false 1 gs (ao+(j:Int).toNat*1)=some (.int .i64 (ch.at_ j:Nat)):=by rw[show(j:Int).toNat=j by simp];exact hA4 j c2
  have iB:=hg.ok.lt j c2;by_cases c0:j=0
  ·subst c0;refine U56 ?_;exact Tc.db (ih ⟨1,oM⟩ (by simp only;omega))
  ·have f2:YB false 1 gs (ao+((j:Int)-1).toNat*1)=some (.int .i64 (ch.at_ (j-1):Nat)):=by rw[show((j:Int)-1).toNat=j-1 by omega];exact hA4 (j-1) oM
   have hmo:=hg.ok.DY j (j-1) oM c2;refine U56 ?_;exact Tc.db (ih ⟨j+1,oM⟩ (by simp only;omega))
end
end Go.Proofs.YtgkmnalhddmclaaGreatDoor
namespace Go.Proofs.YtgkmnalhddmclaaGreatDoor
open Go.RL Go.Proofs.Tryz Go.Conc
set_option maxRecDepth 10000
theorem aAT:jD prog 139 (Extern.Race.marked .releaseMerge):=⟨Tryz.f139,func139,by kernel_rfl,by kernel_rfl,by kernel_rfl,by kernel_rfl⟩
theorem zX:jD prog 140 MV:=⟨Tryz.f140,func140,by kernel_rfl,by kernel_rfl,by kernel_rfl,by kernel_rfl⟩
theorem sN:jD prog 141 enE:=⟨Tryz.f141,func141,by kernel_rfl,by kernel_rfl,by kernel_rfl,by kernel_rfl⟩
theorem aAU:jD prog 142 (fun _=> pure (.bool false)):=⟨Tryz.f142,func142,by kernel_rfl,by kernel_rfl,by kernel_rfl,by kernel_rfl⟩
theorem aCC:jD prog 147 (Extern.Race.marked .read):=⟨Tryz.f147,func147,by kernel_rfl,by kernel_rfl,by kernel_rfl,by kernel_rfl⟩
theorem aCD:jD prog 151 Extern.Sync.semrelease:=⟨Tryz.f151,func151,by kernel_rfl,by kernel_rfl,by kernel_rfl,by kernel_rfl⟩
theorem M1:jD prog 155 (Extern.Race.marked .acquire):=⟨Tryz.f155,func155,by kernel_rfl,by kernel_rfl,by kernel_rfl,by kernel_rfl⟩
theorem aCE:jD prog 158 (Extern.Race.marked .write):=⟨Tryz.f158,func158,by kernel_rfl,by kernel_rfl,by kernel_rfl,by kernel_rfl⟩
theorem aCF:jD prog 159 Extern.Sync.semacquire:=⟨Tryz.f159,func159,by kernel_rfl,by kernel_rfl,by kernel_rfl,by kernel_rfl⟩
theorem aAV:jD prog 178 (Extern.Atomic.update (Op.intArith .add) .u64 true):=⟨Tryz.f178,func178,by kernel_rfl,by kernel_rfl,by kernel_rfl,by kernel_rfl⟩
theorem v7:jD prog 179 (Extern.Atomic.loadT (.int .u64)):=⟨Tryz.f179,func179,by kernel_rfl,by kernel_rfl,by kernel_rfl,by kernel_rfl⟩
theorem aCH:jD prog 180 Extern.Atomic.storeT:=⟨Tryz.f180,func180,by kernel_rfl,by kernel_rfl,by kernel_rfl,by kernel_rfl⟩
theorem O1:jD prog 181 (Extern.Atomic.casT (.int .i32)):=⟨Tryz.f181,func181,by kernel_rfl,by kernel_rfl,by kernel_rfl,by kernel_rfl⟩
theorem P1:jD prog 183 (Extern.Atomic.update (Op.intArith .add) .i32 true):=⟨Tryz.f183,func183,by kernel_rfl,by kernel_rfl,by kernel_rfl,by kernel_rfl⟩
theorem aCI:jD prog 185 (Extern.Atomic.casT (.int .u64)):=⟨Tryz.f185,func185,by kernel_rfl,by kernel_rfl,by kernel_rfl,by kernel_rfl⟩
theorem aCK:jD prog 206 Extern.Sync.canSpin:=⟨Tryz.f206,func206,by kernel_rfl,by kernel_rfl,by kernel_rfl,by kernel_rfl⟩
theorem aCL:jD prog 207 Extern.Sync.nothing:=⟨Tryz.f207,func207,by kernel_rfl,by kernel_rfl,by kernel_rfl,by kernel_rfl⟩
theorem aAW:XZ prog 209:=⟨Tryz.f209,func209,by kernel_rfl,by kernel_rfl,by kernel_rfl,by kernel_rfl,by kernel_rfl⟩
theorem aCM:jD prog 210 Extern.Sync.semacquire:=⟨Tryz.f210,func210,by kernel_rfl,by kernel_rfl,by kernel_rfl,by kernel_rfl⟩
theorem aAX:jD prog 212 Extern.Sync.semrelease:=⟨Tryz.f212,func212,by kernel_rfl,by kernel_rfl,by kernel_rfl,by kernel_rfl⟩
theorem NB:sG prog 182 0=some 0:=by kernel_rfl
theorem dM:sG prog 182 1=some 1:=by kernel_rfl
theorem JQ:sG prog 184 1=some 0:=by kernel_rfl
theorem tJ:sG prog 189 2=some 0:=by kernel_rfl
theorem UE:sG prog 191 1=some 0:=by kernel_rfl
theorem uJ:sG prog 191 2=some 1:=by kernel_rfl
theorem iU:prog.underlying 225=some (.pointer 191):=by kernel_rfl
theorem CH:prog.underlying 196=some .unsafePointer:=by kernel_rfl
theorem qZ:prog.underlying 231=some (.pointer 180):=by kernel_rfl
theorem jU:prog.underlying 256=some (.pointer 182):=by kernel_rfl
theorem p5:prog.underlying 3=some (.int .i64):=by kernel_rfl
theorem xO:prog.underlying 21=some (.int .i32):=by kernel_rfl
theorem aQ:prog.underlying 180=some (.int .u32):=by kernel_rfl
theorem JF:prog.underlying 187=some (.int .u64):=by kernel_rfl
theorem cU:(prog.info? 191).map (·.size)=some (1+1):=by kernel_rfl
theorem jZ:(prog.info? 180).map (·.size)=some (0+1):=by kernel_rfl
theorem bU:(prog.info? 182).map (·.size)=some (1+1):=by kernel_rfl
theorem HN:QG prog 21=some false:=by kernel_rfl
end Go.Proofs.YtgkmnalhddmclaaGreatDoor
namespace Go.Proofs.YtgkmnalhddmclaaGreatDoor
open Go.RL Go.Proofs.Tryz Go.Conc Go.ConcN Go.RL.Au
open Go.ConcR (stA smA)
open Go.ConcM (muA msA)
set_option maxRecDepth 10000
section
variable {main:Bool}{sh:K0}{J:Goroutine->Prop}{K:Value->(Goroutine->Prop)->Prop}{blk off:Nat}
def KC(main:Bool)(K:Value->(Goroutine->Prop)->Prop):Prop:=∀v J',K v J'->∃sh',Cl prog main sh' J'
theorem D5 {d:Int}(hc:Cl prog main sh J)(hk:KC main K)(h:yD J 178 [.pointer (some ⟨blk,off,none⟩),.int .u64 d] K):yD J 146 [.pointer (some ⟨blk,off,none⟩),.int .u64 d] K:=by
 refine cJ.at (by exact hc) aAG (cJ.enter (vs:= [.pointer (some ⟨blk,off,none⟩),.int .u64 d]) func146 rfl ntmps146 (Nat.le_of_ble_eq_true rfl) fun c cs hK=> ?_);refine .sq (.rg rfl rfl ?_);refine .g ?_;refine .dn (.sq (.rg rfl rfl ?_));refine .m ?_;refine .x .nk ?_;refine .x (.fa (zz:=tJ)) ?_;refine .m ?_;refine So.MA rfl rfl rfl nofun rfl (.mk' rfl) rfl (h) ?_;intro v J' hv;obtain⟨sh',hc⟩:=hk v J' hv;refine .g ?_;refine .dn ?_;refine Sc.QB (by exact hc) rfl (Sb.leave (by exact hc) func146 rfl (by exact .inr ⟨_,results146,rfl⟩) ?_);exact hK v J' hv
theorem vT(hc:Cl prog main sh J)(hk:KC main K)(h:yD J 179 [.pointer (some ⟨blk,off,none⟩)] K):yD J 148 [.pointer (some ⟨blk,off,none⟩)] K:=by
 refine cJ.at (by exact hc) aAH (cJ.enter (vs:= [.pointer (some ⟨blk,off,none⟩)]) func148 rfl ntmps148 (Nat.le_of_ble_eq_true rfl) fun c cs hK=> ?_);refine .sq (.rg rfl rfl ?_);refine .g ?_;refine .dn (.sq (.rg rfl rfl ?_));refine .m ?_;refine .x .nk ?_;refine .x (.fa (zz:=tJ)) ?_;refine So.MA rfl rfl rfl nofun rfl (.mk' rfl) rfl (h) ?_;intro v J' hv;obtain⟨sh',hc⟩:=hk v J' hv;refine .g ?_;refine .dn ?_;refine Sc.QB (by exact hc) rfl (Sb.leave (by exact hc) func148 rfl (by exact .inr ⟨_,results148,rfl⟩) ?_);exact hK v J' hv
theorem X4 {d:Int}(hc:Cl prog main sh J)(hk:KC main K)(hu:∀v J',K v J'->v=.tuple #[])(h:yD J 180 [.pointer (some ⟨blk,off,none⟩),.int .u64 d] K):yD J 149 [.pointer (some ⟨blk,off,none⟩),.int .u64 d] K:=by
 refine cJ.at (by exact hc) aAI (cJ.enter (vs:= [.pointer (some ⟨blk,off,none⟩),.int .u64 d]) func149 rfl ntmps149 (Nat.le_of_ble_eq_true rfl) fun c cs hK=> ?_);refine .rg rfl rfl ?_;refine .m ?_;refine .x .nk ?_;refine .x (.fa (zz:=tJ)) ?_;refine .m ?_;refine So.MA rfl rfl rfl nofun rfl (.mk' rfl) rfl (h) ?_;intro v J' hv;obtain⟨sh',hc⟩:=hk v J' hv;refine .dn ?_;refine Sc.over (by exact hc) rfl (Sb.leave (by exact hc) func149 rfl (by exact .inl ⟨results149,rfl⟩) ?_);exact hu v J' hv▸hK v J' hv
theorem aAQ {d e:Int}(hc:Cl prog main sh J)(hk:KC main K)(h:yD J 185 [.pointer (some ⟨blk,off,none⟩),.int .u64 d,.int .u64 e] K):yD J 157 [.pointer (some ⟨blk,off,none⟩),.int .u64 d,.int .u64 e] K:=by
 refine cJ.at (by exact hc) aAL (cJ.enter (vs:= [.pointer (some ⟨blk,off,none⟩),.int .u64 d,.int .u64 e]) func157 rfl ntmps157 (Nat.le_of_ble_eq_true rfl) fun c cs hK=> ?_);refine .sq (.rg rfl rfl ?_);refine .g ?_;refine .dn (.sq (.rg rfl rfl ?_));refine .m ?_;refine .x .nk ?_;refine .x (.fa (zz:=tJ)) ?_;refine .m ?_;refine .m ?_;refine So.MA rfl rfl rfl nofun rfl (.mk' rfl) rfl (h) ?_;intro v J' hv;obtain⟨sh',hc⟩:=hk v J' hv;refine .g ?_;refine .dn ?_;refine Sc.QB (by exact hc) rfl (Sb.leave (by exact hc) func157 rfl (by exact .inr ⟨_,results157,rfl⟩) ?_);exact hK v J' hv
end
set_option maxHeartbeats 4000000
theorem aCl:∀x:Nat,x<128->DD .and .i32 (x:Int) 5=((x%2+x/4%2*4:Nat):Int):=by decide +kernel
theorem aCk:∀x:Nat,x<128->DD .and .i32 (x:Int) 4=((x/4%2*4:Nat):Int):=by decide +kernel
theorem aCj:∀x:Nat,x<128->DD .and .i32 (x:Int) 3=((x%4:Nat):Int):=by decide +kernel
theorem aCi:∀x:Nat,x<128->DD .and .i32 (x:Int) 2=((x/2%2*2:Nat):Int):=by decide +kernel
theorem aCh:∀x:Nat,x<128->DD .and .i32 (x:Int) 1=((x%2:Nat):Int):=by decide +kernel
theorem aCm:∀x:Nat,x<128->DD .and .i32 (x:Int) 7=((x%8:Nat):Int):=by decide +kernel
theorem or1:∀x:Nat,x<128->DD .or .i32 (x:Int) 1=((x+1-x%2:Nat):Int):=by decide +kernel
theorem or2:∀x:Nat,x<128->DD .or .i32 (x:Int) 2=((x+2-x/2%2*2:Nat):Int):=by decide +kernel
theorem or4:∀x:Nat,x<128->DD .or .i32 (x:Int) 4=((x+4-x/4%2*4:Nat):Int):=by decide +kernel
theorem T0:∀x:Nat,x<128->DD .andNot .i32 (x:Int) 2=((x-x/2%2*2:Nat):Int):=by decide +kernel
theorem aDq:∀x:Nat,x<128->(x:Int).fdiv (2 ^ (min (3:Int).toNat IntKind.i32.bits))=((x/8:Nat):Int):=by decide +kernel
theorem IG(x:Nat)(h:x<128):iA .and .i32 (x:Int) 5=some (.int .i32 ((x%2+x/4%2*4:Nat):Int)):=by rw[<-aCl x h];rfl
theorem lF(x:Nat)(h:x<128):iA .and .i32 (x:Int) 4=some (.int .i32 ((x/4%2*4:Nat):Int)):=by rw[<-aCk x h];rfl
theorem kX(x:Nat)(h:x<128):iA .and .i32 (x:Int) 3=some (.int .i32 ((x%4:Nat):Int)):=by rw[<-aCj x h];rfl
theorem NL(x:Nat)(h:x<128):iA .and .i32 (x:Int) 2=some (.int .i32 ((x/2%2*2:Nat):Int)):=by rw[<-aCi x h];rfl
theorem vU(x:Nat)(h:x<128):iA .and .i32 (x:Int) 1=some (.int .i32 ((x%2:Nat):Int)):=by rw[<-aCh x h];rfl
theorem E5(x:Nat)(h:x<128):iA .and .i32 (x:Int) 7=some (.int .i32 ((x%8:Nat):Int)):=by rw[<-aCm x h];rfl
theorem lW(x:Nat)(h:x<128):iA .or .i32 (x:Int) 1=some (.int .i32 ((x+1-x%2:Nat):Int)):=by rw[<-or1 x h];rfl
theorem aBD(x:Nat)(h:x<128):iA .or .i32 (x:Int) 2=some (.int .i32 ((x+2-x/2%2*2:Nat):Int)):=by rw[<-or2 x h];rfl
theorem aDi(x:Nat)(h:x<128):iA .or .i32 (x:Int) 4=some (.int .i32 ((x+4-x/4%2*4:Nat):Int)):=by rw[<-or4 x h];rfl
theorem pJ(x:Nat)(h:x<128):iA .andNot .i32 (x:Int) 2=some (.int .i32 ((x-x/2%2*2:Nat):Int)):=by rw[<-T0 x h];rfl
theorem tI(x:Nat)(h:x<128):qC .shr .i32 (x:Int) 3=some (.int .i32 ((x/8:Nat):Int)):=by rw[<-aDq x h];rfl
theorem wQ(x:Nat)(h:x<1000):iA .add .i32 (x:Int) 8=some (.int .i32 ((x+8:Nat):Int)):=by
 show some (Value.int .i32 (IntKind.i32.wrap ((x:Int)+8)))=_;rw[wrap_i32 oM oM];rfl
theorem C5(x:Nat)(h:x<1000):iA .add .i32 (x:Int) 1=some (.int .i32 ((x+1:Nat):Int)):=by
 show some (Value.int .i32 (IntKind.i32.wrap ((x:Int)+1)))=_;rw[wrap_i32 oM oM];rfl
theorem aB4(x:Nat)(h:8<=x/\x<1000):iA .sub .i32 (x:Int) 8=some (.int .i32 ((x-8:Nat):Int)):=by
 show some (Value.int .i32 (IntKind.i32.wrap ((x:Int)-8)))=_;rw[wrap_i32 oM oM]
 congr 2
 omega
theorem fV:(prog.funcs[182]?).any (·.norace)=true:=by kernel_rfl
noncomputable def F1:Code:=nG Tryz.f182
noncomputable def F5:Code:=cR (cR (cR (cR (cR F1))))
noncomputable def CO:Code:=cB (cB (cL F5))
noncomputable def yF:Code:=cR F5
abbrev yQ:FB:=⟨182,.normal,none⟩
section
variable {X:Fk}{κ:Nat}{D:Nat->Bool}{H:View}{cc:Frame}{cs:List Frame}
def lJ(X:Fk)(κ:Nat)(H:View)(v:Value)(J':Goroutine->Prop):Prop:=v=.tuple #[]/\∃k' D' o,D' κ=false/\X.GI D' o/\J'=Jw prog X κ k' .up D' (H.put X.C (true,o))
theorem VT(X:Fk):∃e c,X.OZ X.Mu=some (e,c)/\0<c:=⟨X.tM,2,by simp[Fk.OZ],by decide⟩
theorem YH {k:Nat}{R:Rg}(hK:∀v J',lJ X κ H v J'->J' (G (cc.finish v) cs))(h0:lk R 0=some (.pointer (some ⟨X.Mu,0,none⟩))):Sc (Jw prog X κ k .le D H) 139 yQ (cc::cs) R [] [.code yF]:=by
 refine Sc.drop (R':= [(0,.pointer (some ⟨X.Mu,0,none⟩))]) ⟨h0,trivial⟩ ?_;refine .tt rfl (.sq (.rg rfl rfl ?_));refine So.MA rfl rfl rfl nofun rfl (.mk' rfl) rfl (Jw.le sN) ?_;rintro v J' ⟨k,t, -,⟨rfl,rfl⟩,rfl⟩;refine .dn ?_;have gJ:=VT X;refine .rg rfl rfl ?_;refine .m ?_;refine .x (TB.raw rfl rfl jU CH bU (by assumption)) ?_;refine So.MA rfl rfl rfl nofun rfl (.mk' rfl) rfl (Jw.la M1) ?_;rintro v J' ⟨rfl,k',D',o, -,h1,h2,rfl⟩;refine .dn ?_;refine Sc.over (by exact Jw.jG rfl) rfl (Sb.leave (by exact Jw.jG rfl) func182 rfl (by exact .inl ⟨results182,rfl⟩) ?_);exact hK _ _ ⟨rfl,k',D',o,h1,h2,rfl⟩
abbrev RH(X:Fk)(o:Nat)(c:Lc)(z:Int):Rg:= [(0,.pointer (some ⟨X.Mu,0,none⟩)),(2,.int .i64 z),(3,.bool c.sv),(4,.bool c.aw),(5,.int .i64 (c.it:Int)),(6,.int .i32 (o:Int))]
def Head(X:Fk)(κ:Nat)(D:Nat->Bool)(H:View)(cc:Frame)(cs:List Frame)(k:Nat):Prop:=
 ∀ (o:Nat) (c:Lc) (z:Int),o<64->(c.aw=true->o/2%2=1/\o/4%2=0)->(c.sv=true->c.aw=true)->c.ws=decide (z≠0)-> 
  Sc (Jw prog X κ k (hd o c) D H) 139 yQ (cc::cs) (RH X o c z) [] [.code CO,.inLoop CO,.inBlock 0,.code yF]
noncomputable def BB:Code:=cB CO
noncomputable def aBs:Code:=cR (cR (cR (cR (cR (cR (cR BB))))))
noncomputable def XX:Code:=cT aBs
theorem tO {k2:Nat}(hK:∀v J',lJ X κ H v J'->J' (G (cc.finish v) cs))(IH:∀k'<k2,Head X κ D H cc cs k')(ne:X.Mu≠X.Wg){R':Rg}{aw sv' ws:Bool}{it:Nat}{z:Int}(hw:ws=decide (z≠0))
  (hR':cC [(0,.pointer (some ⟨X.Mu,0,none⟩)),(2,.int .i64 z),(3,.bool sv'),(5,.int .i64 (it:Int)),(4,.bool aw)] R'):Sc (Jw prog X κ k2 (.r2 ⟨aw,sv',ws,it⟩) D H) 139 yQ (cc::cs) R' [] [.code (cR (cR (cR (cR (cR XX))))),.inBlock 1,.inLoop CO,.inBlock 0,.code yF]:=by
 refine Sc.drop hR' ?_;refine .sq (.rg rfl rfl ?_);refine .m ?_;refine .x .nk ?_;refine .x (.fa (zz:=NB)) ?_;refine Jw.ldM rfl rfl rfl rfl rfl rfl rfl HN fV (fun s LB SD hf=> ?_);obtain⟨g1,g2⟩:=LB;have h64:=hf.1;by_cases h4:s.m/4%2=1
 ·obtain⟨m1,m2,m8⟩:=g1 h4;cases sv' with
  | false=>
   refine⟨.a1 true,by simp[Th.mv,h4],rfl,fun k3 w6=> ?_⟩;refine .g ?_;refine .dn (.sq (.sq (.rg rfl rfl ?_)));refine .m ?_;refine .i ?_ (z:=lF _ oM);refine .i ?_ (z:=NC oM);refine .dn (.tt rfl (.sq (.sq (.rg rfl rfl ?_))));refine .m ?_;refine .i ?_ (z:=kX _ oM);refine .i ?_ (z:=kC oM);refine .m ?_;refine .m ?_;refine .x (TB.shift rfl rfl rfl oM (by exact tI _ oM)) ?_;refine .i ?_ (z:=XB oM);refine .x .pk ?_;refine .dn (.ff rfl (.sp (.sq (.rg rfl rfl ?_))));refine .g ?_;refine .dn (.sq (.sq (.rg rfl rfl ?_)));refine .m ?_;refine .x .nt ?_;refine .m ?_;refine .sk ?_;refine .sk ?_;refine .sk ?_;refine .x .pk ?_;refine .dn (.tt rfl (.rg rfl rfl ?_));refine .m ?_;refine .i ?_ (z:=by exact rfl);refine .g ?_;refine .dn (.sq (.rg rfl rfl ?_));refine .m ?_;refine .x .nk ?_;refine .x (.fa (zz:=NB)) ?_;refine .m ?_;refine So.MA rfl rfl rfl nofun rfl (.mk' rfl) rfl (Jw.a1 (bb:=true) ne P1) ?_;rintro v J' ⟨k4,t, -,⟨⟨y,rfl⟩,rfl⟩,rfl⟩;refine .dn (.xt rfl ?_);exact YH hK rfl
  | true=>
   by_cases e:s.m/8=1
   ·refine⟨.a1 true,by simp[Th.mv,h4,e],rfl,fun k3 w6=> ?_⟩;refine .g ?_;refine .dn (.sq (.sq (.rg rfl rfl ?_)));refine .m ?_;refine .i ?_ (z:=lF _ oM);refine .i ?_ (z:=NC oM);refine .dn (.tt rfl (.sq (.sq (.rg rfl rfl ?_))));refine .m ?_;refine .i ?_ (z:=kX _ oM);refine .i ?_ (z:=kC oM);refine .m ?_;refine .m ?_;refine .x (TB.shift rfl rfl rfl oM (by exact tI _ oM)) ?_;refine .i ?_ (z:=XB oM);refine .x .pk ?_;refine .dn (.ff rfl (.sp (.sq (.rg rfl rfl ?_))));refine .g ?_;refine .dn (.sq (.sq (.rg rfl rfl ?_)));refine .m ?_;refine .x .nt ?_;refine .m ?_;refine .m ?_;refine .x (TB.shift rfl rfl rfl oM (by exact tI _ oM)) ?_;refine .i ?_ (z:=aD oM);refine .x .pk ?_;refine .dn (.tt rfl (.rg rfl rfl ?_));refine .m ?_;refine .i ?_ (z:=by exact rfl);refine .g ?_;refine .dn (.sq (.rg rfl rfl ?_));refine .m ?_;refine .x .nk ?_;refine .x (.fa (zz:=NB)) ?_;refine .m ?_;refine So.MA rfl rfl rfl nofun rfl (.mk' rfl) rfl (Jw.a1 (bb:=true) ne P1) ?_;rintro v J' ⟨k4,t, -,⟨⟨y,rfl⟩,rfl⟩,rfl⟩;refine .dn (.xt rfl ?_);exact YH hK rfl
   ·refine⟨.a1 false,by simp[Th.mv,h4,e],rfl,fun k3 w6=> ?_⟩;refine .g ?_;refine .dn (.sq (.sq (.rg rfl rfl ?_)));refine .m ?_;refine .i ?_ (z:=lF _ oM);refine .i ?_ (z:=NC oM);refine .dn (.tt rfl (.sq (.sq (.rg rfl rfl ?_))));refine .m ?_;refine .i ?_ (z:=kX _ oM);refine .i ?_ (z:=kC oM);refine .m ?_;refine .m ?_;refine .x (TB.shift rfl rfl rfl oM (by exact tI _ oM)) ?_;refine .i ?_ (z:=XB oM);refine .x .pk ?_;refine .dn (.ff rfl (.sp (.sq (.rg rfl rfl ?_))));refine .g ?_;refine .dn (.sq (.sq (.rg rfl rfl ?_)));refine .m ?_;refine .x .nt ?_;refine .m ?_;refine .m ?_;refine .x (TB.shift rfl rfl rfl oM (by exact tI _ oM)) ?_;refine .i ?_ (z:=XB oM);refine .x .pk ?_;refine .dn (.ff rfl (.sp (.sq (.rg rfl rfl ?_))));refine .m ?_;refine .x .nk ?_;refine .x (.fa (zz:=NB)) ?_;refine .m ?_;refine So.MA rfl rfl rfl nofun rfl (.mk' rfl) rfl (Jw.a1 (bb:=false) ne P1) ?_;rintro v J' ⟨k4,t, -,⟨⟨y,rfl⟩,rfl⟩,rfl⟩;refine .dn (.xt rfl ?_);exact YH hK rfl
 ·have h2:=g2 oM;refine⟨hd s.m ⟨true,sv',ws,0⟩,by simp[Th.mv,h4],(by unfold hd;split <;> rfl),fun k3 w6=> ?_⟩;refine .g ?_;refine .dn (.sq (.sq (.rg rfl rfl ?_)));refine .m ?_;refine .i ?_ (z:=lF _ oM);refine .i ?_ (z:=kC oM);refine .dn (.ff rfl (.sp (.sq (.rg rfl rfl ?_))));refine .g ?_;refine .dn (.rg rfl rfl ?_);refine .g ?_;refine .dn (.ib ?_);refine Sc.inLoop (by exact Jw.iG) ?_;exact Sc.drop (by exact⟨rfl,rfl,rfl,rfl,rfl,rfl,trivial⟩) (IH k3 oM s.m ⟨true,sv',ws,0⟩ z h64 (fun _=> ⟨h2,oM⟩) (fun _=> rfl) hw)
theorem uO {k:Nat}(hK:∀v J',lJ X κ H v J'->J' (G (cc.finish v) cs))(IH:∀k'<k,Head X κ D H cc cs k')(ne:X.Mu≠X.Wg){R:Rg}{o:Nat}{aw sv ws q:Bool}{it:Nat}{z:Int}(hw:ws=decide (z≠0))
  (hR:cC ((8,.bool q)::RH X o ⟨aw,sv,ws,it⟩ z) R):Sc (Jw prog X κ k (.s1 ⟨aw,sv,ws,it⟩) D H) 139 yQ (cc::cs) R [] [.code (cR (cR (cR XX))),.inBlock 1,.inLoop CO,.inBlock 0,.code yF]:=by
 refine Sc.drop hR ?_;refine .sq (.rg rfl rfl ?_);refine .m ?_;refine .x .nk ?_;refine .x (.fa (zz:=dM)) ?_;refine .m ?_;refine So.MA rfl rfl rfl nofun rfl (.mk' rfl) rfl (Jw.s1 ne (vs:= [.pointer (some ⟨X.Mu,1,none⟩),.bool q,.int .i64 2]) aCM rfl) ?_;rintro v J' ⟨k1,t,aT,⟨rfl,rfl⟩,rfl⟩;refine .dn (.sq ?_);cases sv with
 | true=>
  refine .rg rfl rfl ?_;refine Jw.t2' rfl rfl rfl .mv (fun k2 yN=> ?_);refine .m ?_;refine .sk ?_;refine .sk ?_;refine .sk ?_;refine .sk ?_;refine .x .pk ?_;refine .g ?_;refine .dn ?_;exact tO hK (fun k' h=> IH k' oM) ne hw ⟨rfl,rfl,rfl,rfl,rfl,trivial⟩
 | false=>
  refine .rg rfl rfl ?_;refine .m ?_;refine .m ?_
  skip
  refine So.MA rfl rfl rfl nofun rfl (.mk' rfl) rfl (Jw.t2 aAW (fun z1=> decide (IntKind.i64.wrap (z1-z)>1000000)) (fun z1=> by cases decide (IntKind.i64.wrap (z1-z)>1000000) <;> simp)) ?_;rintro v J' ⟨k2,z1,yN,rfl,rfl⟩;refine .m ?_;refine .i ?_ (z:=by exact rfl);refine .i ?_ (z:=by exact rfl);refine .x .pk ?_;refine .g ?_;refine .dn ?_;exact tO hK (fun k' h=> IH k' oM) ne hw ⟨rfl,rfl,rfl,rfl,rfl,trivial⟩
end
section
variable {X:Fk}{κ:Nat}{D:Nat->Bool}{H:View}{cc:Frame}{cs:List Frame}
theorem XT {k:Nat}(hK:∀v J',lJ X κ H v J'->J' (G (cc.finish v) cs))(IH:∀k'<k,Head X κ D H cc cs k')(ne:X.Mu≠X.Wg){R:Rg}{o:Nat}{aw sv ws:Bool}{it:Nat}{z:Int}(hw:ws=decide (z≠0))
  (hR:cC (RH X o ⟨aw,sv,ws,it⟩ z) R):Sc (Jw prog X κ k (if ws then .s1 ⟨aw,sv,ws,it⟩ else .t1 ⟨aw,sv,ws,it⟩) D H) 139 yQ (cc::cs) R [] [.code (cR XX),.inBlock 1,.inLoop CO,.inBlock 0,.code yF]:=by
 refine Sc.drop hR ?_;by_cases hz:z=0
 ·subst hz;have rS:ws=false:=by rw[hw];rfl
  subst rS;simp only[Bool.false_eq_true,if_false];refine .sq (.rg rfl rfl ?_);refine .m ?_;refine .i ?_ (z:=kC oM);refine .g ?_;refine .dn (.sq (.sq (.rg rfl rfl ?_)));refine .m ?_;refine .i ?_ (z:=aD oM);refine .dn (.tt rfl (.rg rfl rfl ?_));refine So.MA rfl rfl rfl nofun rfl (.mk' rfl) rfl (Jw.t1 aAW) ?_;rintro v J' ⟨k1,z1,aT,rfl,rfl⟩;refine .g ?_;refine .dn ?_;exact uO (o:=o) (q:=false) hK (fun k' h=> IH k' oM) ne rfl ⟨rfl,rfl,rfl,rfl,rfl,rfl,rfl,trivial⟩
 ·have rS:ws=true:=by rw[hw];exact decide_eq_true hz
  subst rS;simp only[if_true];refine .sq (.rg rfl rfl ?_);refine .m ?_;refine .i ?_ (z:=NC oM);refine .g ?_;refine .dn (.sq (.sq (.rg rfl rfl ?_)));refine .m ?_;refine .i ?_ (z:=XB oM);refine .dn (.ff rfl (.sp ?_));exact uO (o:=o) (q:=true) hK (fun k' h=> IH k' oM) ne hw ⟨rfl,rfl,rfl,rfl,rfl,rfl,rfl,trivial⟩
theorem s4 {o:Nat}{c:Lc}{x:Int}(hx:x=((UD o c:Nat):Int)){k:Nat}(ne:X.Mu≠X.Wg):yD (Jw prog X κ k (.c2 o c) D H) 181 [.pointer (some (muA X.Mu)),.int .i32 (o:Int),.int .i32 x] fun v J'=> ∃k' t',k'<k/\((v=.bool true/\t'=(if o%2=0/\o/4%2=0 then Th.le else if c.ws then .s1 c else .t1 c))\/(v=.bool false/\t'=Th.r3 c))/\J'=Jw prog X κ k' t' D H:=
 hx▸Jw.c2 ne O1
theorem mV {k:Nat}(hK:∀v J',lJ X κ H v J'->J' (G (cc.finish v) cs))(IH:∀k'<k,Head X κ D H cc cs k')(ne:X.Mu≠X.Wg){R:Rg}{o:Nat}{aw sv ws:Bool}{it:Nat}{z:Int}(ho:o<64)(ha:aw=true->o/2%2=1/\o/4%2=0)(hs:sv=true->aw=true)(hw:ws=decide (z≠0))
  (hR:cC (RH X o ⟨aw,sv,ws,it⟩ z) R):Sc (Jw prog X κ k (.c2 o ⟨aw,sv,ws,it⟩) D H) 139 yQ (cc::cs) R [] [.code (cR BB),.inBlock 1,.inLoop CO,.inBlock 0,.code yF]:=by
 refine Sc.drop hR ?_;have key:∀(x:Int) (R':Rg),x=((UD o ⟨aw,sv,ws,it⟩:Nat):Int)->cC ((7,.int .i32 x)::RH X o ⟨aw,sv,ws,it⟩ z) R'->Sc (Jw prog X κ k (.c2 o ⟨aw,sv,ws,it⟩) D H) 139 yQ (cc::cs) R' [] [.code (cR (cR (cR (cR (cR (cR BB)))))),.inBlock 1,.inLoop CO,.inBlock 0,.code yF]:=by
  intro x R' hx hR';refine Sc.drop hR' ?_;refine .sq (.rg rfl rfl ?_);refine .m ?_;refine .x .nk ?_;refine .x (.fa (zz:=NB)) ?_;refine .m ?_;refine .m ?_;refine So.MA rfl rfl rfl nofun rfl (.mk' rfl) rfl (s4 hx ne) ?_;rintro v J' ⟨k1,t,aT,hv,rfl⟩;rcases hv with ⟨rfl,rfl⟩|⟨rfl,rfl⟩
  ·by_cases h0:o%2=0/\o/4%2=0
   ·rw[if_pos h0];obtain⟨h1,h4⟩:=h0;refine .dn (.tt rfl (.sq (.sq (.rg rfl rfl ?_))));refine .m ?_;refine .i ?_ (z:=IG _ oM);refine .i ?_ (z:=aD oM);refine .dn (.tt rfl (.xt rfl ?_));exact YH hK rfl
   ·rw[if_neg h0];refine .dn (.tt rfl (.sq (.sq (.rg rfl rfl ?_))));refine .m ?_;refine .i ?_ (z:=IG _ oM);refine .i ?_ (z:=XB oM);refine .dn (.ff rfl (.sp ?_));exact XT (o:=o) hK (fun k' h=> IH k' oM) ne hw ⟨rfl,rfl,rfl,rfl,rfl,rfl,trivial⟩
  ·refine .dn (.ff rfl (.rg rfl rfl ?_));refine .m ?_;refine .x .nk ?_;refine .x (.fa (zz:=NB)) ?_;refine Jw.ldM rfl rfl rfl rfl rfl rfl rfl HN fV (fun s LB SD hf=> ⟨hd s.m ⟨aw,sv,ws,it⟩,by simp[Th.mv],(by unfold hd;split <;> rfl),fun k2 yN=> ?_⟩);refine .g ?_;refine .dn (.ib ?_);refine Sc.inLoop (by exact Jw.iG) ?_;exact Sc.drop (by exact⟨rfl,rfl,rfl,rfl,rfl,rfl,trivial⟩) (IH k2 oM s.m ⟨aw,sv,ws,it⟩ z hf.1 LB hs hw)
 rcases Nat.mod_two_eq_zero_or_one o with h1|h1
 ·rcases Nat.mod_two_eq_zero_or_one (o/4) with h4|h4
  ·cases aw with
   | false=>
    cases sv with
    | true=> exact nomatch hs rfl
    | false=>
     refine .sq (.rg rfl rfl ?_);refine .m ?_;refine .g ?_;refine .dn (.sq (.sq (.rg rfl rfl ?_)));refine .m ?_;refine .i ?_ (z:=lF _ oM);refine .i ?_ (z:=aD oM);refine .dn (.tt rfl (.rg rfl rfl ?_));refine .m ?_;refine .i ?_ (z:=lW _ oM);refine .g ?_;refine .dn (.sq (.sq (.rg rfl rfl ?_)));refine .m ?_;refine .i ?_ (z:=IG _ oM);refine .i ?_ (z:=kC oM);refine .dn (.ff rfl (.sp (.sq (.sq (.rg rfl rfl ?_)))));refine .m ?_;refine .m ?_;refine .sk ?_;refine .sk ?_;refine .sk ?_;refine .x .pk ?_;refine .dn (.ff rfl (.sp (.sq (.sq (.rg rfl rfl ?_)))));refine .m ?_;refine .dn (.ff rfl (.sp ?_));refine key _ _ ?_ ⟨rfl,rfl,rfl,rfl,rfl,rfl,rfl,trivial⟩;simp[UD,h1,h4] <;> omega
   | true=>
    cases sv with
    | true=>
     refine .sq (.rg rfl rfl ?_);refine .m ?_;refine .g ?_;refine .dn (.sq (.sq (.rg rfl rfl ?_)));refine .m ?_;refine .i ?_ (z:=lF _ oM);refine .i ?_ (z:=aD oM);refine .dn (.tt rfl (.rg rfl rfl ?_));refine .m ?_;refine .i ?_ (z:=lW _ oM);refine .g ?_;refine .dn (.sq (.sq (.rg rfl rfl ?_)));refine .m ?_;refine .i ?_ (z:=IG _ oM);refine .i ?_ (z:=kC oM);refine .dn (.ff rfl (.sp (.sq (.sq (.rg rfl rfl ?_)))));refine .m ?_;refine .m ?_;refine .m ?_;refine .i ?_ (z:=vU _ oM);refine .i ?_ (z:=kC oM);refine .x .pk ?_;refine .dn (.ff rfl (.sp (.sq (.sq (.rg rfl rfl ?_)))));refine .m ?_;refine .dn ?_;obtain⟨g2, -⟩:=ha rfl;refine .tt rfl (.sq (.sq (.rg rfl rfl ?_)));refine .m ?_;refine .i ?_ (z:=NL _ oM);refine .i ?_ (z:=XB oM);refine .dn (.ff rfl (.sp (.rg rfl rfl ?_)));refine .m ?_;refine .i ?_ (z:=pJ _ oM);refine .g ?_;refine .dn ?_;refine key _ _ ?_ ⟨rfl,rfl,rfl,rfl,rfl,rfl,rfl,trivial⟩;simp[UD,h1,h4] <;> omega
    | false=>
     refine .sq (.rg rfl rfl ?_);refine .m ?_;refine .g ?_;refine .dn (.sq (.sq (.rg rfl rfl ?_)));refine .m ?_;refine .i ?_ (z:=lF _ oM);refine .i ?_ (z:=aD oM);refine .dn (.tt rfl (.rg rfl rfl ?_));refine .m ?_;refine .i ?_ (z:=lW _ oM);refine .g ?_;refine .dn (.sq (.sq (.rg rfl rfl ?_)));refine .m ?_;refine .i ?_ (z:=IG _ oM);refine .i ?_ (z:=kC oM);refine .dn (.ff rfl (.sp (.sq (.sq (.rg rfl rfl ?_)))));refine .m ?_;refine .m ?_;refine .sk ?_;refine .sk ?_;refine .sk ?_;refine .x .pk ?_;refine .dn (.ff rfl (.sp (.sq (.sq (.rg rfl rfl ?_)))));refine .m ?_;refine .dn ?_;obtain⟨g2, -⟩:=ha rfl;refine .tt rfl (.sq (.sq (.rg rfl rfl ?_)));refine .m ?_;refine .i ?_ (z:=NL _ oM);refine .i ?_ (z:=XB oM);refine .dn (.ff rfl (.sp (.rg rfl rfl ?_)));refine .m ?_;refine .i ?_ (z:=pJ _ oM);refine .g ?_;refine .dn ?_;refine key _ _ ?_ ⟨rfl,rfl,rfl,rfl,rfl,rfl,rfl,trivial⟩;simp[UD,h1,h4] <;> omega
  ·cases aw with
   | true=> exact absurd (ha rfl).2 oM
   | false=>
    cases sv with
    | true=> exact nomatch hs rfl
    | false=>
     refine .sq (.rg rfl rfl ?_);refine .m ?_;refine .g ?_;refine .dn (.sq (.sq (.rg rfl rfl ?_)));refine .m ?_;refine .i ?_ (z:=lF _ oM);refine .i ?_ (z:=XB oM);refine .dn (.ff rfl (.sp (.sq (.sq (.rg rfl rfl ?_)))));refine .m ?_;refine .i ?_ (z:=IG _ oM);refine .i ?_ (z:=NC oM);refine .dn (.tt rfl (.rg rfl rfl ?_));refine .m ?_;refine .i ?_ (z:=wQ _ oM);refine .g ?_;refine .dn (.sq (.sq (.rg rfl rfl ?_)));refine .m ?_;refine .m ?_;refine .sk ?_;refine .sk ?_;refine .sk ?_;refine .x .pk ?_;refine .dn (.ff rfl (.sp (.sq (.sq (.rg rfl rfl ?_)))));refine .m ?_;refine .dn (.ff rfl (.sp ?_));refine key _ _ ?_ ⟨rfl,rfl,rfl,rfl,rfl,rfl,rfl,trivial⟩;simp[UD,h1,h4] <;> omega
 ·rcases Nat.mod_two_eq_zero_or_one (o/4) with h4|h4
  ·cases aw with
   | false=>
    cases sv with
    | true=> exact nomatch hs rfl
    | false=>
     refine .sq (.rg rfl rfl ?_);refine .m ?_;refine .g ?_;refine .dn (.sq (.sq (.rg rfl rfl ?_)));refine .m ?_;refine .i ?_ (z:=lF _ oM);refine .i ?_ (z:=aD oM);refine .dn (.tt rfl (.rg rfl rfl ?_));refine .m ?_;refine .i ?_ (z:=lW _ oM);refine .g ?_;refine .dn (.sq (.sq (.rg rfl rfl ?_)));refine .m ?_;refine .i ?_ (z:=IG _ oM);refine .i ?_ (z:=NC oM);refine .dn (.tt rfl (.rg rfl rfl ?_));refine .m ?_;refine .i ?_ (z:=wQ _ oM);refine .g ?_;refine .dn (.sq (.sq (.rg rfl rfl ?_)));refine .m ?_;refine .m ?_;refine .sk ?_;refine .sk ?_;refine .sk ?_;refine .x .pk ?_;refine .dn (.ff rfl (.sp (.sq (.sq (.rg rfl rfl ?_)))));refine .m ?_;refine .dn (.ff rfl (.sp ?_));refine key _ _ ?_ ⟨rfl,rfl,rfl,rfl,rfl,rfl,rfl,trivial⟩;simp[UD,h1,h4] <;> omega
   | true=>
    cases sv with
    | true=>
     refine .sq (.rg rfl rfl ?_);refine .m ?_;refine .g ?_;refine .dn (.sq (.sq (.rg rfl rfl ?_)));refine .m ?_;refine .i ?_ (z:=lF _ oM);refine .i ?_ (z:=aD oM);refine .dn (.tt rfl (.rg rfl rfl ?_));refine .m ?_;refine .i ?_ (z:=lW _ oM);refine .g ?_;refine .dn (.sq (.sq (.rg rfl rfl ?_)));refine .m ?_;refine .i ?_ (z:=IG _ oM);refine .i ?_ (z:=NC oM);refine .dn (.tt rfl (.rg rfl rfl ?_));refine .m ?_;refine .i ?_ (z:=wQ _ oM);refine .g ?_;refine .dn (.sq (.sq (.rg rfl rfl ?_)));refine .m ?_;refine .m ?_;refine .m ?_;refine .i ?_ (z:=vU _ oM);refine .i ?_ (z:=NC oM);refine .x .pk ?_;refine .dn (.tt rfl (.rg rfl rfl ?_));refine .m ?_;refine .i ?_ (z:=aDi _ oM);refine .g ?_;refine .dn (.sq (.sq (.rg rfl rfl ?_)));refine .m ?_;refine .dn ?_;obtain⟨g2, -⟩:=ha rfl;refine .tt rfl (.sq (.sq (.rg rfl rfl ?_)));refine .m ?_;refine .i ?_ (z:=NL _ oM);refine .i ?_ (z:=XB oM);refine .dn (.ff rfl (.sp (.rg rfl rfl ?_)));refine .m ?_;refine .i ?_ (z:=pJ _ oM);refine .g ?_;refine .dn ?_;refine key _ _ ?_ ⟨rfl,rfl,rfl,rfl,rfl,rfl,rfl,trivial⟩;simp[UD,h1,h4] <;> omega
    | false=>
     refine .sq (.rg rfl rfl ?_);refine .m ?_;refine .g ?_;refine .dn (.sq (.sq (.rg rfl rfl ?_)));refine .m ?_;refine .i ?_ (z:=lF _ oM);refine .i ?_ (z:=aD oM);refine .dn (.tt rfl (.rg rfl rfl ?_));refine .m ?_;refine .i ?_ (z:=lW _ oM);refine .g ?_;refine .dn (.sq (.sq (.rg rfl rfl ?_)));refine .m ?_;refine .i ?_ (z:=IG _ oM);refine .i ?_ (z:=NC oM);refine .dn (.tt rfl (.rg rfl rfl ?_));refine .m ?_;refine .i ?_ (z:=wQ _ oM);refine .g ?_;refine .dn (.sq (.sq (.rg rfl rfl ?_)));refine .m ?_;refine .m ?_;refine .sk ?_;refine .sk ?_;refine .sk ?_;refine .x .pk ?_;refine .dn (.ff rfl (.sp (.sq (.sq (.rg rfl rfl ?_)))));refine .m ?_;refine .dn ?_;obtain⟨g2, -⟩:=ha rfl;refine .tt rfl (.sq (.sq (.rg rfl rfl ?_)));refine .m ?_;refine .i ?_ (z:=NL _ oM);refine .i ?_ (z:=XB oM);refine .dn (.ff rfl (.sp (.rg rfl rfl ?_)));refine .m ?_;refine .i ?_ (z:=pJ _ oM);refine .g ?_;refine .dn ?_;refine key _ _ ?_ ⟨rfl,rfl,rfl,rfl,rfl,rfl,rfl,trivial⟩;simp[UD,h1,h4] <;> omega
  ·cases aw with
   | true=> exact absurd (ha rfl).2 oM
   | false=>
    cases sv with
    | true=> exact nomatch hs rfl
    | false=>
     refine .sq (.rg rfl rfl ?_);refine .m ?_;refine .g ?_;refine .dn (.sq (.sq (.rg rfl rfl ?_)));refine .m ?_;refine .i ?_ (z:=lF _ oM);refine .i ?_ (z:=XB oM);refine .dn (.ff rfl (.sp (.sq (.sq (.rg rfl rfl ?_)))));refine .m ?_;refine .i ?_ (z:=IG _ oM);refine .i ?_ (z:=NC oM);refine .dn (.tt rfl (.rg rfl rfl ?_));refine .m ?_;refine .i ?_ (z:=wQ _ oM);refine .g ?_;refine .dn (.sq (.sq (.rg rfl rfl ?_)));refine .m ?_;refine .m ?_;refine .sk ?_;refine .sk ?_;refine .sk ?_;refine .x .pk ?_;refine .dn (.ff rfl (.sp (.sq (.sq (.rg rfl rfl ?_)))));refine .m ?_;refine .dn (.ff rfl (.sp ?_));refine key _ _ ?_ ⟨rfl,rfl,rfl,rfl,rfl,rfl,rfl,trivial⟩;simp[UD,h1,h4] <;> omega
end
section
variable {X:Fk}{κ:Nat}{D:Nat->Bool}{H:View}{cc:Frame}{cs:List Frame}
noncomputable def W4:Code:=cT (cR (cL BB))
theorem dG {k:Nat}(IH:∀k'<k,Head X κ D H cc cs k'){R:Rg}{o:Nat}{aw sv ws:Bool}{it:Nat}{z:Int}(hw:ws=decide (z≠0))(dL:it<4)
  (hR:cC (RH X o ⟨aw,sv,ws,it⟩ z) R):Sc (Jw prog X κ k (.ds ⟨aw,sv,ws,it⟩) D H) 139 yQ (cc::cs) R [] [.code (cR W4),.code (cR BB),.inBlock 1,.inLoop CO,.inBlock 0,.code yF]:=by
 refine Sc.drop hR ?_;refine .sq (.rg rfl rfl ?_);refine So.MA rfl rfl rfl nofun rfl (.mk' rfl) rfl (Jw.ds aCL rfl) ?_;rintro v J' ⟨k1,t,aT,⟨rfl,rfl⟩,rfl⟩;have aA2:iA .add .i64 (it:Int) 1=some (.int .i64 ((it+1:Nat):Int)):=by
  rw[YD oM oM]
  congr 2
 refine .dn (.sq (.rg rfl rfl ?_));refine .m ?_;refine .i ?_ (z:=by assumption);refine .g ?_;refine .dn (.sq (.rg rfl rfl ?_));refine .m ?_;refine .x .nk ?_;refine .x (.fa (zz:=NB)) ?_;refine Jw.ldM rfl rfl rfl rfl rfl rfl rfl HN fV (fun s LB SD hf=> ⟨hd s.m ⟨aw,sv,ws,it+1⟩,by simp[Th.mv],(by unfold hd;split <;> rfl),fun k2 yN=> ?_⟩);refine .g ?_;refine .dn (.xt rfl ?_);refine Sc.inLoop (by exact Jw.iG) ?_;exact Sc.drop (by exact⟨rfl,rfl,rfl,rfl,rfl,rfl,trivial⟩) (IH k2 oM s.m ⟨aw,sv,ws,it+1⟩ z hf.1 LB SD.1 hw)
theorem aAB {o:Nat}{c:Lc}{x:Int}(hx:x=((o+2:Nat):Int)){k:Nat}(ne:X.Mu≠X.Wg):yD (Jw prog X κ k (.c1 o c) D H) 181 [.pointer (some (muA X.Mu)),.int .i32 (o:Int),.int .i32 x] fun v J'=> ∃k' t',k'<k/\((v=.bool true/\t'=Th.ds { c with aw:=true })\/(v=.bool false/\t'=Th.ds c))/\J'=Jw prog X κ k' t' D H:=
 hx▸Jw.c1 ne O1
theorem BW(hK:∀v J',lJ X κ H v J'->J' (G (cc.finish v) cs))(ne:X.Mu≠X.Wg)(k:Nat):Head X κ D H cc cs k:=by
 induction k using Nat.strongRecOn with
 | ind k IH=>
  rintro o ⟨aw,sv,ws,it⟩ z ho ha hs hw;simp only at ha hs hw;by_cases h5:o%2=1/\o/4%2=0
  ·have hh : hd o ⟨aw,sv,ws,it⟩=.sq o ⟨aw,sv,ws,it⟩:=if_pos h5;obtain⟨h1,h4⟩:=h5;rw[hh];refine Sc.block Jw.iG (Sc.seq Jw.iG ?_);refine .sq (.rg rfl rfl ?_);refine .m ?_;refine .i ?_ (z:=IG _ oM);refine .i ?_ (z:=aD oM);refine .m ?_;refine .m ?_
   skip
   refine So.MA rfl rfl rfl nofun rfl (.mk' rfl) rfl (Jw.sq aCK) ?_;rintro v J' ⟨k1,t,aT,⟨rfl,dL,rfl⟩|⟨rfl,rfl⟩,rfl⟩
   ·refine .x .pk ?_;refine .dn (.tt rfl ?_);rcases Nat.mod_two_eq_zero_or_one (o/2) with h2|h2
    ·cases aw with
     | true=> exact absurd (ha rfl).1 oM
     | false=>
      by_cases h8:o/8=0
      ·rw[if_neg oM];refine .sq (.sq (.rg rfl rfl ?_));refine .m ?_;refine .x .nt ?_;refine .m ?_;refine .m ?_;refine .i ?_ (z:=NL _ oM);refine .i ?_ (z:=aD oM);refine .x .pk ?_;refine .m ?_;refine .m ?_;refine .x (TB.shift rfl rfl rfl oM (by exact tI _ oM)) ?_;refine .i ?_ (z:=kC oM);refine .x .pk ?_;refine .m ?_;refine .sk ?_;refine .sk ?_;refine .sk ?_;refine .sk ?_;refine .sk ?_;refine .sk ?_;refine .sk ?_;refine .x .pk ?_;refine .dn (.ff rfl (.sp ?_));exact dG (o:=o) (fun k' h=> IH k' oM) hw dL ⟨rfl,rfl,rfl,rfl,rfl,rfl,trivial⟩
      ·rw[if_pos ⟨rfl,h2,h8⟩];refine .sq (.sq (.rg rfl rfl ?_));refine .m ?_;refine .x .nt ?_;refine .m ?_;refine .m ?_;refine .i ?_ (z:=NL _ oM);refine .i ?_ (z:=aD oM);refine .x .pk ?_;refine .m ?_;refine .m ?_;refine .x (TB.shift rfl rfl rfl oM (by exact tI _ oM)) ?_;refine .i ?_ (z:=NC oM);refine .x .pk ?_;refine .m ?_;refine .m ?_;refine .x .nk ?_;refine .x (.fa (zz:=NB)) ?_;refine .m ?_;refine .m ?_;refine .i ?_ (z:=aBD _ oM)
       skip
       refine So.MA rfl rfl rfl nofun rfl (.mk' rfl) rfl (aAB (by congr 1;omega) ne) ?_;rintro v J' ⟨k2,t,yN,⟨rfl,rfl⟩|⟨rfl,rfl⟩,rfl⟩
       ·refine .x .pk ?_;refine .dn (.tt rfl (.rg rfl rfl ?_));refine .g ?_;refine .dn ?_;exact dG (o:=o) (fun k' h=> IH k' oM) hw dL ⟨rfl,rfl,rfl,rfl,rfl,rfl,trivial⟩
       ·refine .x .pk ?_;refine .dn (.ff rfl (.sp ?_));exact dG (o:=o) (fun k' h=> IH k' oM) hw dL ⟨rfl,rfl,rfl,rfl,rfl,rfl,trivial⟩
    ·rw[if_neg oM];cases aw with
     | true=>
      refine .sq (.sq (.rg rfl rfl ?_));refine .m ?_;refine .x .nt ?_;refine .m ?_;refine .sk ?_;refine .sk ?_;refine .sk ?_;refine .x .pk ?_;refine .m ?_;refine .sk ?_;refine .sk ?_;refine .sk ?_;refine .x .pk ?_;refine .m ?_;refine .sk ?_;refine .sk ?_;refine .sk ?_;refine .sk ?_;refine .sk ?_;refine .sk ?_;refine .sk ?_;refine .x .pk ?_;refine .dn (.ff rfl (.sp ?_));exact dG (o:=o) (fun k' h=> IH k' oM) hw dL ⟨rfl,rfl,rfl,rfl,rfl,rfl,trivial⟩
     | false=>
      refine .sq (.sq (.rg rfl rfl ?_));refine .m ?_;refine .x .nt ?_;refine .m ?_;refine .m ?_;refine .i ?_ (z:=NL _ oM);refine .i ?_ (z:=XB oM);refine .x .pk ?_;refine .m ?_;refine .sk ?_;refine .sk ?_;refine .sk ?_;refine .x .pk ?_;refine .m ?_;refine .sk ?_;refine .sk ?_;refine .sk ?_;refine .sk ?_;refine .sk ?_;refine .sk ?_;refine .sk ?_;refine .x .pk ?_;refine .dn (.ff rfl (.sp ?_));exact dG (o:=o) (fun k' h=> IH k' oM) hw dL ⟨rfl,rfl,rfl,rfl,rfl,rfl,trivial⟩
   ·refine .x .pk ?_;refine .dn (.ff rfl (.sp ?_));exact mV hK (fun k' h=> IH k' oM) ne ho ha hs hw ⟨rfl,rfl,rfl,rfl,rfl,rfl,trivial⟩
  ·have hh:hd o ⟨aw,sv,ws,it⟩=.c2 o ⟨aw,sv,ws,it⟩:=if_neg h5;rw[hh];refine Sc.block Jw.iG (Sc.seq Jw.iG ?_);refine .sq (.rg rfl rfl ?_);refine .m ?_;refine .i ?_ (z:=IG _ oM);refine .i ?_ (z:=XB oM);refine .m ?_;refine .sk ?_;refine .sk ?_;refine .x .pk ?_;refine .dn (.ff rfl (.sp ?_));exact mV hK (fun k' h=> IH k' oM) ne ho ha hs hw ⟨rfl,rfl,rfl,rfl,rfl,rfl,trivial⟩
theorem aAa {k:Nat}(ne:X.Mu≠X.Wg):yD (Jw prog X κ k .r0 D H) 182 [.pointer (some ⟨X.Mu,0,none⟩)] (lJ X κ H):=by
 refine cJ.at (by exact Jw.jG rfl) aAM (cJ.enter (vs:= [.pointer (some ⟨X.Mu,0,none⟩)]) func182 rfl ntmps182 (Nat.le_of_ble_eq_true rfl) fun c cs hK=> ?_);refine .sq (.rg rfl rfl ?_);refine .g ?_;refine .dn (.sq (.rg rfl rfl ?_));refine .g ?_;refine .dn (.sq (.rg rfl rfl ?_));refine .g ?_;refine .dn (.sq (.rg rfl rfl ?_));refine .g ?_;refine .dn (.sq (.rg rfl rfl ?_));refine .m ?_;refine .x .nk ?_;refine .x (.fa (zz:=NB)) ?_;refine Jw.ldM rfl rfl rfl rfl rfl rfl rfl HN fV (fun s LB SD hf=> ⟨hd s.m ⟨false,false,false,0⟩,by simp[Th.mv],(by unfold hd;split <;> rfl),fun k2 yN=> ?_⟩);refine .g ?_;refine .dn (.sq (.bl ?_));refine Sc.loop (by exact Jw.iG) ?_;exact Sc.drop (by exact⟨rfl,rfl,rfl,rfl,rfl,rfl,trivial⟩) (BW hK ne k2 s.m ⟨false,false,false,0⟩ 0 hf.1 (fun h=> nomatch h) (fun h=> nomatch h) rfl)
theorem J3 {k:Nat}(ne:X.Mu≠X.Wg):yD (Jw prog X κ k .ld D H) 153 [.pointer (some ⟨X.Mu,0,none⟩)] (lJ X κ H):=by
 refine cJ.at (by exact Jw.jG rfl) aAJ (cJ.enter (vs:= [.pointer (some ⟨X.Mu,0,none⟩)]) func153 rfl ntmps153 (Nat.le_of_ble_eq_true rfl) fun c cs hK=> ?_);refine .sq (.rg rfl rfl ?_);refine So.MA rfl rfl rfl nofun rfl (.mk' rfl) rfl (Jw.ld zX) ?_;rintro v J' ⟨k1,t,aT,⟨rfl,rfl⟩,rfl⟩;refine .dn (.sq (.sq (.rg rfl rfl ?_)));refine .m ?_;refine .x .nk ?_;refine .x (.fa (zz:=NB)) ?_;refine So.MA rfl rfl rfl nofun rfl (.mk' rfl) rfl (Jw.l0 ne O1) ?_;rintro v J' ⟨k2,t,yN,⟨rfl,rfl⟩|⟨rfl,rfl⟩,rfl⟩
 ·refine .dn (.tt rfl (.sq (.tt rfl (.sq (.rg rfl rfl ?_)))));refine So.MA rfl rfl rfl nofun rfl (.mk' rfl) rfl (Jw.le sN) ?_;rintro v J' ⟨k3,t,w6,⟨rfl,rfl⟩,rfl⟩;refine .dn ?_;have gJ:=VT X;refine .rg rfl rfl ?_;refine .m ?_;refine .x (TB.raw rfl rfl jU CH bU (by assumption)) ?_;refine So.MA rfl rfl rfl nofun rfl (.mk' rfl) rfl (Jw.la M1) ?_;rintro v J' ⟨rfl,k',D',o, -,h1,h2,rfl⟩;refine .dn ?_;refine Sc.QB (by exact Jw.jG rfl) rfl (Sb.leave (by exact Jw.jG rfl) func153 rfl (by exact .inl ⟨results153,rfl⟩) ?_);exact hK _ _ ⟨rfl,k',D',o,h1,h2,rfl⟩
 ·refine .dn (.ff rfl (.sp (.rg rfl rfl ?_)));refine .m ?_;refine So.MA rfl rfl rfl nofun rfl (.mk' rfl) rfl (aAa ne) ?_;rintro v J' ⟨rfl,k',D',o,h1,h2,rfl⟩;refine .dn ?_;refine Sc.over (by exact Jw.jG rfl) rfl (Sb.leave (by exact Jw.jG rfl) func153 rfl (by exact .inl ⟨results153,rfl⟩) ?_);exact hK _ _ ⟨rfl,k',D',o,h1,h2,rfl⟩
theorem v8 {k:Nat}(ne:X.Mu≠X.Wg):yD (Jw prog X κ k .ld D H) 105 [.pointer (some ⟨X.Mu,0,none⟩)] (lJ X κ H):=by
 refine cJ.at (by exact Jw.jG rfl) aAC (cJ.enter (vs:= [.pointer (some ⟨X.Mu,0,none⟩)]) func105 rfl ntmps105 (Nat.le_of_ble_eq_true rfl) fun c cs hK=> ?_);refine .rg rfl rfl ?_;refine .m ?_;refine .x .nk ?_;refine .x (.fa (zz:=JQ)) ?_;refine So.MA rfl rfl rfl nofun rfl (.mk' rfl) rfl (J3 ne) ?_;rintro v J' ⟨rfl,k',D',o,h1,h2,rfl⟩;refine .dn ?_;refine Sc.over (by exact Jw.jG rfl) rfl (Sb.leave (by exact Jw.jG rfl) func105 rfl (by exact .inl ⟨results105,rfl⟩) ?_);exact hK _ _ ⟨rfl,k',D',o,h1,h2,rfl⟩
end
section
variable {X:Fk}{κ:Nat}{D:Nat->Bool}{H:View}{cc:Frame}{cs:List Frame}
def aAx(X:Fk)(κ:Nat)(D:Nat->Bool)(H:View)(v:Value)(J':Goroutine->Prop):Prop:=v=.tuple #[]/\∃k',J'=Jw prog X κ k' .ue D H
noncomputable def O3:Code:=cR (cT (cR (cR (nG Tryz.f184))))
noncomputable def aAp:Code:=cB (cB O3)
abbrev aCo:FB:=⟨184,.normal,none⟩
theorem aBA:(prog.funcs[184]?).any (·.norace)=true:=by kernel_rfl
theorem aBz:(prog.funcs[154]?).any (·.norace)=true:=by kernel_rfl
def M6(n:Nat):Th:=if n/8=0\/n%8≠0 then .ue else .uc n
def aAq(X:Fk)(κ:Nat)(D:Nat->Bool)(H:View)(cc:Frame)(cs:List Frame)(k:Nat):Prop:=
 ∀(n:Nat) (R:Rg),n<64->cC [(0,.pointer (some ⟨X.Mu,0,none⟩)),(4,.int .i32 (n:Int))] R->Sc (Jw prog X κ k (M6 n) D H) 43 aCo (cc::cs) R [] [.code aAp,.inLoop aAp,.inBlock 0]
theorem aB5 {o:Nat}{x:Int}(hx:x=((o-6:Nat):Int)){k:Nat}(ne:X.Mu≠X.Wg):yD (Jw prog X κ k (.uc o) D H) 181 [.pointer (some (muA X.Mu)),.int .i32 (o:Int),.int .i32 x] fun v J'=> ∃k' t',k'<k/\((v=.bool true/\t'=Th.us false)\/(v=.bool false/\t'=Th.ux))/\J'=Jw prog X κ k' t' D H:=
 hx▸Jw.uc ne O1
theorem vZ(hK:∀v J',aAx X κ D H v J'->J' (G (cc.finish v) cs))(ne:X.Mu≠X.Wg)(k:Nat):aAq X κ D H cc cs k:=by
 induction k using Nat.strongRecOn with
 | ind k IH=>
  intro n R hn hR;refine Sc.drop hR ?_;by_cases h0:n/8=0
  ·have ht:M6 n=.ue:=if_pos (.inl h0);rw[ht];refine .bl (.sq (.sq (.rg rfl rfl ?_)));refine .m ?_;refine .x (TB.shift rfl rfl rfl oM (by exact tI _ oM)) ?_;refine .i ?_ (z:=aD oM);refine .m ?_;refine .sk ?_;refine .sk ?_;refine .sk ?_;refine .x .pk ?_;refine .dn (.tt rfl ?_);refine Sc.QB (by exact Jw.jG rfl) rfl (Sb.leave (by exact Jw.jG rfl) func184 rfl (by exact .inl ⟨results184,rfl⟩) ?_);exact hK _ _ ⟨rfl,k,rfl⟩
  ·by_cases h8:n%8=0
   ·have ht:M6 n=.uc n:=if_neg oM;rw[ht];refine .bl (.sq (.sq (.rg rfl rfl ?_)));refine .m ?_;refine .x (TB.shift rfl rfl rfl oM (by exact tI _ oM)) ?_;refine .i ?_ (z:=XB oM);refine .m ?_;refine .m ?_;refine .i ?_ (z:=E5 _ oM);refine .i ?_ (z:=kC oM);refine .x .pk ?_;refine .dn (.ff rfl (.sp (.sq (.rg rfl rfl ?_))));refine .m ?_;refine .i ?_ (z:=aB4 _ oM);refine .i ?_ (z:=aBD _ oM);refine .g ?_;refine .dn (.sq (.sq (.rg rfl rfl ?_)));refine .m ?_;refine .x .nk ?_;refine .x (.fa (zz:=NB)) ?_;refine .m ?_;refine .m ?_;refine So.MA rfl rfl rfl nofun rfl (.mk' rfl) rfl (aB5 (by congr 1;omega) ne) ?_;rintro v J' ⟨k1,t,aT,⟨rfl,rfl⟩|⟨rfl,rfl⟩,rfl⟩
    ·refine .dn (.tt rfl (.sq (.rg rfl rfl ?_)));refine .m ?_;refine .x .nk ?_;refine .x (.fa (zz:=dM)) ?_;refine So.MA rfl rfl rfl nofun rfl (.mk' rfl) rfl (Jw.us (vs:= [.pointer (some ⟨X.Mu,1,none⟩),.bool false,.int .i64 2]) ne aAX rfl) ?_;rintro v J' ⟨k2,t,yN,⟨rfl,rfl⟩,rfl⟩;refine .dn ?_;refine Sc.QB (by exact Jw.jG rfl) rfl (Sb.leave (by exact Jw.jG rfl) func184 rfl (by exact .inl ⟨results184,rfl⟩) ?_);exact hK _ _ ⟨rfl,k2,rfl⟩
    ·refine .dn (.ff rfl (.sp (.rg rfl rfl ?_)));refine .m ?_;refine .x .nk ?_;refine .x (.fa (zz:=NB)) ?_;refine Jw.ldM rfl rfl rfl rfl rfl rfl rfl HN aBA (fun s LB SD hf=> ⟨M6 s.m,by simp[Th.mv,M6],(by unfold M6;split <;> rfl),fun k2 yN=> ?_⟩);refine .g ?_;refine .dn (.ib ?_);refine Sc.inLoop (by exact Jw.iG) ?_;exact IH k2 oM s.m _ hf.1 ⟨rfl,rfl,trivial⟩
   ·have ht:M6 n=.ue:=if_pos (.inr h8);rw[ht];refine .bl (.sq (.sq (.rg rfl rfl ?_)));refine .m ?_;refine .x (TB.shift rfl rfl rfl oM (by exact tI _ oM)) ?_;refine .i ?_ (z:=XB oM);refine .m ?_;refine .m ?_;refine .i ?_ (z:=E5 _ oM);refine .i ?_ (z:=NC oM);refine .x .pk ?_;refine .dn (.tt rfl ?_);refine Sc.QB (by exact Jw.jG rfl) rfl (Sb.leave (by exact Jw.jG rfl) func184 rfl (by exact .inl ⟨results184,rfl⟩) ?_);exact hK _ _ ⟨rfl,k,rfl⟩
theorem aB6 {k n:Nat}(hn:n<64)(h1:n%2=0)(ne:X.Mu≠X.Wg):yD (Jw prog X κ k (if n/4%2=1 then .us true else M6 n) D H) 184 [.pointer (some ⟨X.Mu,0,none⟩),.int .i32 (n:Int)] (aAx X κ D H):=by
 by_cases h4:n/4%2=1
 ·rw[if_pos h4];refine cJ.at (by exact Jw.jG rfl) J5 (cJ.enter (vs:= [.pointer (some ⟨X.Mu,0,none⟩),.int .i32 (n:Int)]) func184 rfl ntmps184 (Nat.le_of_ble_eq_true rfl) fun c cs hK=> ?_);refine .sq (.sq (.rg rfl rfl ?_));refine .m ?_;refine .i ?_ (z:=C5 _ oM);refine .i ?_ (z:=vU _ oM);refine .i ?_ (z:=XB oM);refine .dn (.ff rfl (.sp (.sq (.rg rfl rfl ?_))));refine .m ?_;refine .i ?_ (z:=lF _ oM);refine .i ?_ (z:=XB oM);refine .dn (.ff rfl (.rg rfl rfl ?_));refine .m ?_;refine .x .nk ?_;refine .x (.fa (zz:=dM)) ?_;refine So.MA rfl rfl rfl nofun rfl (.mk' rfl) rfl (Jw.us (vs:= [.pointer (some ⟨X.Mu,1,none⟩),.bool true,.int .i64 2]) ne aAX rfl) ?_;rintro v J' ⟨k2,t,yN,⟨rfl,rfl⟩,rfl⟩;refine .dn ?_;refine Sc.over (by exact Jw.jG rfl) rfl (Sb.leave (by exact Jw.jG rfl) func184 rfl (by exact .inl ⟨results184,rfl⟩) ?_);exact hK _ _ ⟨rfl,k2,rfl⟩
 ·rw[if_neg h4];refine cJ.at (by exact Jw.iG) J5 (cJ.enter (vs:= [.pointer (some ⟨X.Mu,0,none⟩),.int .i32 (n:Int)]) func184 rfl ntmps184 (Nat.le_of_ble_eq_true rfl) fun c cs hK=> ?_);refine .sq (.sq (.rg rfl rfl ?_));refine .m ?_;refine .i ?_ (z:=C5 _ oM);refine .i ?_ (z:=vU _ oM);refine .i ?_ (z:=XB oM);refine .dn (.ff rfl (.sp (.sq (.rg rfl rfl ?_))));refine .m ?_;refine .i ?_ (z:=lF _ oM);refine .i ?_ (z:=aD oM);refine .dn (.tt rfl (.sq (.rg rfl rfl ?_)));refine .m ?_;refine .g ?_;refine .dn (.bl ?_);refine Sc.loop (by exact Jw.iG) ?_;exact vZ hK ne k n _ hn ⟨rfl,rfl,trivial⟩
def P0(X:Fk)(κ:Nat)(D:Nat->Bool)(H:View)(v:Value)(J':Goroutine->Prop):Prop:=v=.tuple #[]/\∃k',J'=Jw prog X κ k' .wr D H
theorem bW {k:Nat}{o:Obj}(ne:X.Mu≠X.Wg)(hC:H X.C=none)(hG:X.GI (YK D κ) o):yD (Jw prog X κ k .up D (H.put X.C (true,o))) 154 [.pointer (some ⟨X.Mu,0,none⟩)] (P0 X κ D H):=by
 refine cJ.at (by exact Jw.jG rfl) aAK (cJ.enter (vs:= [.pointer (some ⟨X.Mu,0,none⟩)]) func154 rfl ntmps154 (Nat.le_of_ble_eq_true rfl) fun c cs hK=> ?_);refine .sq (.tt rfl (.sq (.rg rfl rfl ?_)));refine .m ?_;refine .x .nk ?_;refine .x (.fa (zz:=NB)) ?_;refine Jw.ldM rfl rfl rfl rfl rfl rfl rfl HN aBz (fun s LB SD hf=> ⟨.ur,by simp[Th.mv],rfl,fun k1 aT=> ?_⟩);refine .dn ?_;have gJ:=VT X;refine .sq (.rg rfl rfl ?_);refine .m ?_;refine .x (TB.raw rfl rfl jU CH bU (by assumption)) ?_;refine So.MA rfl rfl rfl nofun rfl (.mk' rfl) rfl (Jw.ur aAT hC hG) ?_;rintro v J' ⟨rfl,k2,yN,rfl⟩;refine .dn (.rg rfl rfl ?_);refine So.MA rfl rfl rfl nofun rfl (.mk' rfl) rfl (Jw.ud zX) ?_;rintro v J' ⟨k3,t,w6,⟨rfl,rfl⟩,rfl⟩;refine .dn (.sq (.rg rfl rfl ?_));refine .m ?_;refine .x .nk ?_;refine .x (.fa (zz:=NB)) ?_;refine So.MA rfl rfl rfl nofun rfl (.mk' rfl) rfl (Jw.u0 ne P1) ?_;rintro v J' ⟨k4,t,hk4,⟨m,hm,h1,rfl,rfl⟩,rfl⟩;by_cases e:m=1
 ·rw[if_pos e];refine .g ?_;refine .dn (.sq (.sq (.rg rfl rfl ?_)));refine .m ?_;refine .i ?_ (z:=kC oM);refine .dn (.ff rfl (.sp (.rg rfl rfl ?_)));refine So.MA rfl rfl rfl nofun rfl (.mk' rfl) rfl (Jw.ue sN) ?_;rintro v J' ⟨k5,t,hk5,⟨rfl,rfl⟩,rfl⟩;refine .dn ?_;refine Sc.over (by exact Jw.jG rfl) rfl (Sb.leave (by exact Jw.jG rfl) func154 rfl (by exact .inl ⟨results154,rfl⟩) ?_);exact hK _ _ ⟨rfl,k5,rfl⟩
 ·rw[if_neg e];refine .g ?_;refine .dn (.sq (.sq (.rg rfl rfl ?_)));refine .m ?_;refine .i ?_ (z:=NC oM);refine .dn (.tt rfl (.rg rfl rfl ?_));refine .m ?_;refine .m ?_;refine So.MA rfl rfl rfl nofun rfl (.mk' rfl) rfl (aB6 (n:=m-1) oM oM ne) ?_;rintro v J' ⟨rfl,k5,rfl⟩;refine .dn (.rg rfl rfl ?_);refine So.MA rfl rfl rfl nofun rfl (.mk' rfl) rfl (Jw.ue sN) ?_;rintro v J' ⟨k6,t,hk6,⟨rfl,rfl⟩,rfl⟩;refine .dn ?_;refine Sc.over (by exact Jw.jG rfl) rfl (Sb.leave (by exact Jw.jG rfl) func154 rfl (by exact .inl ⟨results154,rfl⟩) ?_);exact hK _ _ ⟨rfl,k6,rfl⟩
theorem eS {k n:Nat}{b:FB}{R:Rg}{ds:List Deferred}{o:Obj}(hb:b.rd=none)(ne:X.Mu≠X.Wg)(hC:H X.C=none)(hG:X.GI (YK D κ) o)
  (h:∀k',Sb (Jw prog X κ k' .wr D H) n b cs R ds):Sb (Jw prog X κ k .up D (H.put X.C (true,o))) n b cs R (dcall 106 #[.pointer (some ⟨X.Mu,0,none⟩)]::ds):=by
 refine Sb.BX (vs:= [.pointer (some ⟨X.Mu,0,none⟩)]) Jw.iG hb func106 kR rfl ntmps106 (Nat.le_of_ble_eq_true rfl) fun c hm hc=> ?_;refine .rg rfl rfl ?_;refine .m ?_;refine .x .nk ?_;refine .x (.fa (zz:=JQ)) ?_;refine So.MA rfl rfl rfl nofun rfl (.mk' rfl) rfl (bW ne hC hG) ?_;rintro v J' ⟨rfl,k',rfl⟩;refine .dn ?_;refine Sc.over Jw.iG rfl (Sb.leaveD Jw.iG func106 rfl results106 (.inl hm) (hc _ (h k')))
end
set_option maxHeartbeats 1000000
theorem aP:∀a:Nat,a<8->∀b:Nat,b<2->DD .and .u64 ((a*4294967296+b:Nat):Int) 2147483648=0:=by decide +kernel
theorem bP:∀a:Nat,a<8->∀b:Nat,b<2->DD .and .u64 ((a*4294967296+b:Nat):Int) 2147483647=(b:Int):=by decide +kernel
theorem cP:∀a:Nat,a<8->∀b:Nat,b<2->((a*4294967296+b:Nat):Int).fdiv (2 ^ (min (32:Int).toNat IntKind.u64.bits))=(a:Int):=by decide +kernel
theorem aAk:IntKind.u64.wrap (-1)=18446744073709551615:=by decide +kernel
theorem S4:qC .shl .u64 18446744073709551615 32=some (.int .u64 18446744069414584320):=by
 show some (Value.int .u64 (IntKind.u64.wrap (18446744073709551615*2 ^ (min (32:Int).toNat IntKind.u64.bits))))=_;rw[show IntKind.u64.wrap (18446744073709551615*2 ^ (min (32:Int).toNat IntKind.u64.bits))=18446744069414584320 by decide +kernel]
theorem aB8:IntKind.u64.wrap 1=1:=by decide +kernel
theorem Z9:qC .shl .u64 1 32=some (.int .u64 4294967296):=by
 show some (Value.int .u64 (IntKind.u64.wrap (1*2 ^ (min (32:Int).toNat IntKind.u64.bits))))=_;rw[show IntKind.u64.wrap (1*2 ^ (min (32:Int).toNat IntKind.u64.bits))=4294967296 by decide +kernel]
theorem nU:IntKind.i32.wrap (-1)= -1:=by decide +kernel
theorem rV:∀a:Nat,a<8->IntKind.i32.wrap (a:Int)=(a:Int):=by decide +kernel
theorem kQ:∀a:Nat,a<8->IntKind.u32.wrap (a:Int)=(a:Int):=by decide +kernel
set_option maxHeartbeats 4000000
def Ch.bad(c:Ch)(i:Nat):Option Int:=if c.fits i then(c.lk i).oU.map (fun n=> (n:Int)) else some (-1)
def wF(c:Ch)(D:Nat->Bool)(k v:Value):Prop:=∃(i:Nat) (z:Int),i<=c.m/\D i=true/\c.bad i=some z/\k=.int .i64 (i:Nat)/\v=.int .i64 z
def GIc(c:Ch)(D:Nat->Bool)(o:Obj):Prop:=∃es cl,o=.map es cl/\MB es cl (wF c D)
theorem BJ(i:Int):XD en 1 3 (.int .i64 i):=⟨_,[_],rfl,rfl,_,rfl⟩
theorem CL {c:Ch}{D:Nat->Bool}{es:Array MapEntry}{cl:Nat}(h:MB es cl (wF c D)):∀e∈es.toList,XD en 1 3 e.key:=fun e he=> by
 obtain⟨i,z,_,_,_,hk,_⟩:=(h.mem e.key e.val).2 ⟨e,he,rfl,rfl⟩;rw[hk];exact BJ _
theorem s5 {c:Ch}{D:Nat->Bool}{κ:Nat}(h:c.bad κ=none)(k v:Value):wF c (YK D κ) k v<->wF c D k v:=by
 unfold wF YK;constructor
 ·rintro⟨i,z,h1,h2,h3,h4,h5⟩;refine⟨i,z,h1,?_,h3,h4,h5⟩;by_cases e:i=κ
  ·subst e;rw[h] at h3;cases h3
  ·simpa [e] using h2
 ·rintro⟨i,z,h1,h2,h3,h4,h5⟩;exact⟨i,z,h1,by simp[h2],h3,h4,h5⟩
theorem u5 {c:Ch}{D:Nat->Bool}{κ:Nat}{z:Int}(hκ:κ<=c.m)(h:c.bad κ=some z)(k v:Value):
  wF c (YK D κ) k v<->(k=.int .i64 (κ:Nat)/\v=.int .i64 z)\/(k≠ .int .i64 (κ:Nat)/\wF c D k v):=by
 unfold wF YK;constructor
 ·rintro⟨i,z',h1,h2,h3,h4,h5⟩;by_cases e:i=κ
  ·subst e;rw[h] at h3;cases h3
   exact .inl ⟨h4,h5⟩
  ·refine .inr ⟨?_,i,z',h1,by simpa [e] using h2,h3,h4,h5⟩;rw[h4];intro hh;simp only[Value.int.injEq,true_and,Int.natCast_inj] at hh;exact e hh
 ·rintro(⟨rfl,rfl⟩|⟨_,i,z',h1,h2,h3,h4,h5⟩)
  ·exact⟨κ,z,hκ,by simp,h,rfl,rfl⟩
  ·exact⟨i,z',h1,by simp[h2],h3,h4,h5⟩
theorem JR {H:View}{b:Nat}{x:Bool×Obj}(h:H b=some x):(H.xA b).put b x=H:=by
 funext c
 by_cases e:c=b
 ·subst e;rw[View.pA,h]
 ·rw[View.jA _ _ e,KA e]
structure aCf(X:Fk)(c:Ch)(H:View)(κ b1 b8 b7 lb lo lc ac:Nat)(A:Option Addr):Prop where
 ne:X.Mu≠X.Wg
 ok:c.Ok
 ch:kG H c lb lo lc A
 h1:∃f,H b1=some (f,.cells ⟨(c.val lb lo lc ac A).cells.toList⟩ 133 (0,0))
 h8:∃f,H b8=some (f,.cells ⟨[.int .i64 (κ:Nat)]⟩ 3 (0,0))
 h7:∃f,H b7=some (f,.cells ⟨[.map (some X.C)]⟩ 192 (0,0))
 bL:∀i,i<=c.m->c.fits i=true->(c.lk i).cH
 kn:κ<=c.m
 C7:nC H
 C0:H X.C=none
 GI:X.GI=GIc c
def aAm(X:Fk)(b1 b8 b7:Nat):List Value:= [.pointer (some ⟨X.Wg,0,none⟩),.pointer (some ⟨b1,0,none⟩),.pointer (some ⟨b8,0,none⟩),.pointer (some ⟨X.Mu,0,none⟩),.pointer (some ⟨b7,0,none⟩)]
section
variable {X:Fk}{c:Ch}{H:View}{κ b1 b8 b7 lb lo lc ac:Nat}{A:Option Addr}
theorem BZ(w:aCf X c H κ b1 b8 b7 lb lo lc ac A)
  (done:∀(H':View) (D:Nat->Bool) (k n:Nat) (b:FB) (cs:List Frame) (R:Rg) (ds:List Deferred),b.rd=none->Sb (Jq prog 0) n b cs R ds->Sb (Jw prog X κ k .wr D H') n b cs R (dcall 103 #[.pointer (some ⟨X.Wg,0,none⟩)]::ds)) (k:Nat):
  Jw prog X κ k .ld (fun _=> false) H (Go.Conc.born prog { target:=.fn (.func 102) (aAm X b1 b8 b7).toArray,args:=#[] }):=by
 obtain⟨ne,LB,r6,⟨f1,h1⟩,⟨f8,h8⟩,⟨f7,h7⟩,s6,hκ,hG,hC0,E7⟩:=w;have l8:YB false 1 [Value.int .i64 (κ:Nat)] 0=some (.int .i64 (κ:Nat)):=rfl;refine Cl.born (vs:=aAm X b1 b8 b7) Jw.iG func102 kR rfl ntmps102 (Nat.le_of_ble_eq_true rfl) (by simp) ?_;have fin:∀(z:Int) (is:Bool) (H1:View),c.bad κ=(if is then some z else none)->H.le H1->Sc (Jw prog X κ k .ld (fun _=> false) (H1.xA X.C)) 26 ⟨102,.deferred,none⟩ [zS prog]
   [(0,.pointer (some ⟨X.Wg,0,none⟩)),(2,.pointer (some ⟨b8,0,none⟩)),(3,.pointer (some ⟨X.Mu,0,none⟩)),(4,.pointer (some ⟨b7,0,none⟩)),(5,.int .i64 z),(6,.bool is)] [dcall 103 #[.pointer (some ⟨X.Wg,0,none⟩)]] [.code (cR (cR (cR (nG Tryz.f102))))]:=by
  intro z is H1 hb hle;have hC:H1.xA X.C X.C=none:=by simp[View.xA]
  have g8:H1.xA X.C b8=some (f8,.cells ⟨[.int .i64 (κ:Nat)]⟩ 3 (0,0)):=by
   rw[KA (by rintro rfl;rw[hC0] at h8;cases h8)];exact hle _ _ h8
  have g7:H1.xA X.C b7=some (f7,.cells ⟨[.map (some X.C)]⟩ 192 (0,0)):=by
   rw[KA (by rintro rfl;rw[hC0] at h7;cases h7)];exact hle _ _ h7
  generalize H1.xA X.C=H2 at hC g8 g7;refine .sq (.rg rfl rfl ?_);refine So.MA rfl rfl rfl nofun rfl (.mk' rfl) rfl (v8 ne) ?_;rintro v' J' ⟨rfl,k',D',o,hD,hGo,rfl⟩;rw[E7] at hGo;refine .dn (.sq (.rg rfl rfl ?_));refine So.defer Jw.iG (f:=106) (vs:= [.pointer (some ⟨X.Mu,0,none⟩)]) rfl nofun rfl rfl ⟨_,rfl⟩ rfl ?_;refine .dn (.sq (.rg rfl rfl ?_));refine .m ?_;refine .dn ?_;have bot:∀(H':View) (R:Rg) (k':Nat),Sb (Jw prog X κ k' .wr D' H') 26 ⟨102,.deferred,none⟩ [zS prog] R [dcall 103 #[.pointer (some ⟨X.Wg,0,none⟩)]]:=fun H' R k'=>
   done H' D' k' 26 _ _ R [] rfl (Sb.leaveD Jq.cl func102 rfl results102 (.inr rfl) Jq.bot)
  cases is with
  | false=>
   have D7:X.GI (YK D' κ) o:=by
    rw[E7];obtain⟨es,cl,h2,h3⟩:=hGo;exact⟨es,cl,h2,h3.congr (s5 hb)⟩
   refine .ff rfl (.sp ?_);exact Sc.over Jw.iG rfl (eS rfl ne hC D7 fun k''=> bot _ _ k'')
  | true=>
   obtain⟨es,cl,rfl,hm⟩:=hGo;refine Sc.mono ?_ (fun g hg=> Jw.ofT rfl hg);refine Sc.G8 (eA.pop hC (eA.nil _)) ?_;refine .tt rfl (.r ?_);refine .x .l0 ?_;refine .x .l0 ?_;refine .m ?_;refine .e (Or.mapUpdate (E:=en) 0 1 rfl rfl rfl rfl rfl rfl rfl dE (BJ _) (CL hm) rfl (fun rr hr=> ?_));obtain⟨es',cl',cY,WV⟩:=hm.put (.int .i64 z) hr;rw[cY];refine .done ?_;refine Tc.u4 (fun H3 hs=> ?_);have hc3:=hs.get (i:=0) rfl;refine Sc.mono ?_ (fun g hg=> Jw.toT rfl hg);rw[<-JR hc3];have D7:X.GI (YK D' κ) (.map es' cl'):=by
    rw[E7];exact⟨es',cl',rfl,WV.congr (u5 hκ hb)⟩
   exact Sc.over Jw.iG rfl (eS rfl ne (by simp[View.xA]) D7 fun k''=> bot _ _ k'')
 refine .sq (.rg rfl rfl ?_);refine So.defer Jw.iG (f:=103) (vs:= [.pointer (some ⟨X.Wg,0,none⟩)]) rfl nofun rfl rfl ⟨_,rfl⟩ rfl ?_;refine .dn ?_;refine Sc.mono ?_ (fun g hg=> Jw.ofT rfl hg);refine Sc.G8 (eA.nil H) ?_;refine .sr ?_;refine .g ?_;refine .g ?_;refine .done (.seq ?_);refine Tc.via (fun R' _=> ∃z is,c.bad κ=(if is then some z else none)/\cC [(0,.pointer (some ⟨X.Wg,0,none⟩)),(2,.pointer (some ⟨b8,0,none⟩)),(3,.pointer (some ⟨X.Mu,0,none⟩)),(4,.pointer (some ⟨b7,0,none⟩)),(5,.int .i64 z),(6,.bool is)] R') ?_ (fun fin'=> ?_)
 ·rintro R' L' ⟨z,is,hb,hR⟩;refine Tc.TE (L':= []) ?_ hR (List.nil_sublist _);refine Tc.u4 (fun H1 hs=> ?_);exact Sc.mono (fin z is H1 hb hs.base) (fun g hg=> Jw.toT rfl (Jw.forget X.C hg))
 ·cases hf:c.fits κ with
  | false=>
   refine .sr ?_;refine .x .l0 ?_;refine .x .l0 ?_;refine .c rfl rfl rfl rfl (fun H hs=> .f H5 rfl (dA.is (.tuple ⟨[(c.lk κ).val,.bool false]⟩) (by rewrite [hf];rfl) (sO _ H c κ lb lo lc ac A LB (r6.le hs.base) hκ (zA hG hs.base)))) ?_;refine .m ?_;refine .x .et ?_;refine .x .et ?_;refine .e (.al (zz:=fun _=> ?_));refine .e (.st 0 (zz:=?_));refine .g ?_;refine .done (.sr ?_);refine .m ?_;refine .done (.ff rfl (.skip ?_));exact fin' _ _ ⟨-1,true,by unfold Ch.bad;rw[hf];rfl,⟨rfl,rfl,rfl,rfl,rfl,rfl,trivial⟩⟩
  | true=>
   refine .sr ?_;refine .x .l0 ?_;refine .x .l0 ?_;refine .c rfl rfl rfl rfl (fun H hs=> .f H5 rfl (dA.is (.tuple ⟨[(c.lk κ).val,.bool true]⟩) (by rewrite [hf];rfl) (sO _ H c κ lb lo lc ac A LB (r6.le hs.base) hκ (zA hG hs.base)))) ?_;refine .m ?_;refine .x .et ?_;refine .x .et ?_;refine .e (.al (zz:=fun _=> ?_));refine .e (.st 0 (zz:=?_));refine .g ?_;refine .done (.sr ?_);refine .m ?_;refine .done (.tt rfl ?_);cases hw:(c.lk κ).oU with
   | none=>
    refine .r ?_;refine .x (.ld 0) ?_;refine .c rfl rfl rfl rfl (fun H hs=> .f aAO rfl (dA.is (.tuple ⟨[.int .i64 0,.bool false]⟩) (by rewrite [hw];rfl) (ZM _ H (c.lk κ) (s6 κ hκ hf)))) ?_;refine .m ?_;refine .x .et ?_;refine .x .et ?_;refine .g ?_;refine .g ?_;refine .done ?_;exact fin' _ _ ⟨0,false,by unfold Ch.bad;rw[hf,hw];rfl,⟨rfl,rfl,rfl,rfl,rfl,rfl,trivial⟩⟩
   | some n=>
    refine .r ?_;refine .x (.ld 0) ?_;refine .c rfl rfl rfl rfl (fun H hs=> .f aAO rfl (dA.is (.tuple ⟨[.int .i64 (n:Nat),.bool true]⟩) (by rewrite [hw];rfl) (ZM _ H (c.lk κ) (s6 κ hκ hf)))) ?_;refine .m ?_;refine .x .et ?_;refine .x .et ?_;refine .g ?_;refine .g ?_;refine .done ?_;exact fin' _ _ ⟨n,true,by unfold Ch.bad;rw[hf,hw];rfl,⟨rfl,rfl,rfl,rfl,rfl,rfl,trivial⟩⟩
end
end Go.Proofs.YtgkmnalhddmclaaGreatDoor
