/-
 Texts of the proofs over baudot/dial.
-/
import Derived.Test.YtgkmnalhddmclaaGreatDoorB10
namespace Go.Proofs.YtgkmnalhddmclaaGreatDoor
open Go.RL Go.Proofs.Tryz
set_option maxRecDepth 10000
set_option maxHeartbeats 4000000
theorem aG:∀v:Nat,v<128->∀n:Nat,n<32->(xD v=some n<->v=64+2*n):=by decide +kernel
theorem GM {v n:Nat}(h:xD v=some n):n<32:=by
 unfold xD at h;split at h
 ·cases h
  omega
 ·cases h
theorem AK:∀ {l:List MapEntry},(l.map (·.born)).Nodup->∀a∈l,∀b∈l,a.born=b.born->a=b
 | [],_,a,ha,_,_,_=> by cases ha
 | x ::l,h,a,ha,b,hb,e=> by
  rw[List.map_cons,List.nodup_cons] at h;rcases List.mem_cons.1 ha with h1|h1
  ·rcases List.mem_cons.1 hb with h2|h2
   ·rw[h1,h2]
   ·subst h1;exact(h.1 (e▸List.mem_map_of_mem h2)).elim
  ·rcases List.mem_cons.1 hb with h2|h2
   ·subst h2;exact(h.1 (e▸List.mem_map_of_mem h1)).elim
   ·exact AK h.2 a h1 b h2 e
def zP(v:Value):Nat:=match v with
 | .int _ i=> i.toNat
 | _=> 0
def sJ(e:MapEntry):Option Value:=(xD (zP e.key)).map fun n=> .int .i64 (n:Nat)
def yS(e:MapEntry):Bool:=(xD (zP e.key)).isNone
def Lk.yC(k:Lk)(c n:Nat):Bool:=k.iF c (64+2*n)
def Lk.bad(k:Lk)(c:Nat):Bool:=(List.range 128).any fun v=> k.iF c v&&(xD v).isNone
theorem HS {k:Lk}{c:Nat}{es:Array MapEntry}{cl:Nat}(h:MB es cl (vF (k.iF c))):(es.toList.filterMap sJ).Perm (WA (k.yC c) 32):=by
 have TX:∀e∈es.toList,∃u:Nat,u<128/\e.key=.int .u8 (u:Nat)/\k.iF c u=true:=fun e he=> by
  obtain⟨_,u,h1,h2,h3⟩:=(h.mem e.key e.val).2 ⟨e,he,rfl,rfl⟩;exact⟨u,h1,h2,h3⟩
 have nd1:(es.toList.filterMap sJ).Nodup:=by
  have hk:=h.keys;rw[List.nodup_iff_pairwise_ne,List.pairwise_map] at hk;rw[List.nodup_iff_pairwise_ne];rw[List.pairwise_filterMap];refine List.Pairwise.imp_of_mem ?_ hk;intro a b ha hb p6 x hx y hy e;subst e;obtain⟨u,u1,u2,_⟩:=TX a ha;obtain⟨w,w1,w2,_⟩:=TX b hb;unfold sJ zP at hx hy;rw[u2] at hx;rw[w2] at hy;simp only[Int.toNat_natCast] at hx hy;cases hu:xD u with
  | none=> rw[hu] at hx;cases hx
  | some n=>
   cases hw:xD w with
   | none=> rw[hw] at hy;cases hy
   | some m=>
    rw[hu] at hx;rw[hw] at hy;simp only[Option.map_some,Option.some.injEq] at hx hy;rw[<-hx] at hy;simp only[Value.int.injEq,true_and,Int.natCast_inj] at hy;subst hy;have hm:=GM hu;have e1:=(aG u u1 m hm).1 hu;have e2:=(aG w w1 m hm).1 hw;exact p6 (by rw[u2,w2,e1,e2])
 have nd2:(WA (k.yC c) 32).Nodup:=by
  unfold WA;rw[List.nodup_iff_pairwise_ne,List.pairwise_map];refine List.Pairwise.imp ?_ (List.Pairwise.filter _ (List.nodup_iff_pairwise_ne.1 List.nodup_range));intro a b p6 e;simp only[Value.int.injEq,true_and,Int.natCast_inj] at e;exact p6 e
 refine(List.perm_ext_iff_of_nodup nd1 nd2).2 fun v=> ?_;unfold WA;simp only[List.mem_filterMap,List.mem_map,List.mem_filter,List.mem_range];constructor
 ·rintro⟨e,he,h1⟩;obtain⟨u,u1,u2,u3⟩:=TX e he;unfold sJ zP at h1;rw[u2] at h1;simp only[Int.toNat_natCast] at h1;cases hu:xD u with
  | none=> rw[hu] at h1;cases h1
  | some n=>
   rw[hu] at h1;simp only[Option.map_some,Option.some.injEq] at h1;have hn:=GM hu;have e1:=(aG u u1 n hn).1 hu;exact⟨n,⟨hn,by unfold Lk.yC;rw[<-e1];exact u3⟩,h1⟩
 ·rintro⟨n,⟨h1,h2⟩,rfl⟩;obtain⟨e,he,h3,_⟩:=(h.mem (.int .u8 ((64+2*n:Nat):Int)) (.bool true)).1 ⟨rfl,64+2*n,oM,rfl,h2⟩;refine⟨e,he,?_⟩;unfold sJ zP;rw[h3];simp only[Int.toNat_natCast];rw[(aG (64+2*n) oM n h1).2 rfl];rfl
theorem X0 {k:Lk}{c:Nat}{es:Array MapEntry}{cl:Nat}(h:MB es cl (vF (k.iF c))):es.toList.any yS=k.bad c:=by
 unfold Lk.bad;rw[Bool.eq_iff_iff,List.any_eq_true,List.any_eq_true];constructor
 ·rintro⟨e,he,h1⟩;obtain⟨_,u,u1,u2,u3⟩:=(h.mem e.key e.val).2 ⟨e,he,rfl,rfl⟩;refine⟨u,List.mem_range.2 u1,?_⟩;unfold yS zP at h1;rw[u2] at h1;rw[u3];exact h1
 ·rintro⟨u,hu,h1⟩;rw[Bool.and_eq_true] at h1;obtain⟨e,he,h3,_⟩:=(h.mem (.int .u8 (u:Nat)) (.bool true)).1 ⟨rfl,u,List.mem_range.1 hu,rfl,h1.1⟩;refine⟨e,he,?_⟩;unfold yS zP;rw[h3];exact h1.2
def Lk.refused(k:Lk)(c:Nat):Int:=if k.bad c then(if(WA (k.yC c) 32).length=0 then 1 else 0) else 2
def R6(l:List Value)(r:Int)(H:View)(v:Value)(H':View):Prop:=H.le H'/\∃g:Gl 3 1,v=.tuple ⟨[g.val,.int .i64 r,.int .i64 0]⟩/\g.l=l/\∀y∈g.bl,H' y.1=some y.2/\H y.1=none
section
variable(M:Md prog)(H:View)
theorem zV(k:Lk)(code:Nat)(hG:nC H)(hk:k.ok=true)(hc:code<32)(h1:(WA (k.yC code) 32).length<=1):dA M 19 #[k.val,.int .i64 code] H (R6 (WA (k.yC code) 32) (k.refused code) H):=by
 refine .en func19 ntmps19 fun St c cs hK=> ?_;refine U2 ?_;refine .bo fun b2=> ?_;refine U8 ?_;refine .e (Or.EA (fun x=> .tuple ⟨[k.val,YG code x,.int .i64 0]⟩) (FF code) (fun _=> True) rfl rfl rfl rfl rfl dE (VB code) (fun H hs=> .h (AT M H k code (zA hG hs.base) hk hc)) (fun x hx=> ?_));refine U4 ?_;refine .al fun b7=> ?_;refine .al fun b8=> ?_;refine B5 ?_;refine .e (Or.EA (fun y:Nat×Array MapEntry×Nat=> .map (some y.1)) (fun y=> [(y.1,true,.map y.2.1 y.2.2)]) (fun y=> MB y.2.1 y.2.2 (vF (k.iF code))) rfl rfl rfl rfl rfl dE (fun _=> by simp) (fun H hs=> .h (dA.mono (uU M H k (Lk.bL hk) code x.1 x.2.1 hc (mD fun y hy=> hs.at_ y (by simp[hy]))) (by rintro v H' ⟨h1,m,es,cl,h2,h3,h4,h5⟩;exact⟨h1,(m,es,cl),h2,h5,by simp[h3,h4]⟩))) (fun y hm=> ?_));obtain⟨m,es,cl⟩:=y;simp only at hm;have aBh:=HS hm;have H7:=X0 hm;refine .e (Or.range (E:=en) (es:=es) (cl:=cl) rfl rfl (fun H hs=> ⟨true,hs.at_ (m,true,.map es cl) (by simp)⟩) rfl rfl rfl dE (fun it=> ?_));refine U ?_;refine Tc.lift (L₂:= [(it,true,.mapIter (some m) cl #[] cl)]) rfl (fun Hm hsm=> ?_);have WG:Hm m=some (true,.map es cl):=hsm.at_ (m,true,.map es cl) (by simp);have XQ:∀b x,Hm b=none->H b=some x->False:=fun b x h2 h3=> by rw[hsm.base _ _ h3] at h2;cases h2
 refine U ?_;refine Tc.db (Tc.IA (σ:= { s:Array Nat×Gl 3 1×Bool//(s.2.1.l++(AE es s.1).filterMap sJ).Perm (WA (k.yC code) 32)/\(s.2.2||(AE es s.1).any yS)=k.bad code })
  (fun s=> ([(26,.pointer (some ⟨it,0,none⟩)),(4,s.1.2.1.val),(9,.bool s.1.2.2)],[(it,true,.mapIter (some m) cl s.1.1 cl)]++s.1.2.1.bl)) (fun s=> (AE es s.1.1).length) ?_ ⟨(#[],Gl.nil 3 1,false),by rw[PJ];exact aBh,by rw[PJ,H7];rfl⟩)
 rintro⟨⟨seen,g,bd⟩,g1,g2⟩ ih;simp only at g1 g2;have QU:=g1.length_eq;rw[List.length_append] at QU;have EK:=g.hl;rw[Nat.mul_one] at EK;show Tc M St _ _ _ _ [(26,.pointer (some ⟨it,0,none⟩)),(4,g.val),(9,.bool bd)] ([(it,true,.mapIter (some m) cl seen cl)]++g.bl) _ _;refine U2 ?_;refine .e (Or.next (es:=es) 0 rfl rfl rfl (fun H hs=> ⟨true,hs.base _ _ WG⟩) hm.lt rfl dE (fun e he B3=> ?_) (fun PA=> ?_))
 ·have hp:=gS hm.BQ he B3;obtain⟨_,u,u1,u2,u3⟩:=(hm.mem e.key e.val).2 ⟨e,he,rfl,rfl⟩;have KG:es.find? (fun x=> x.born==e.born)=some e:=by
   rw[<-Array.find?_toList];cases hf:es.toList.find? (fun x=> x.born==e.born) with
   | none=> have:=List.find?_eq_none.1 hf e he;simp at this
   | some e'=>
    have h3:=List.mem_of_find?_eq_some hf;have h4:=List.find?_some hf;simp only[beq_iff_eq] at h4;rw[AK hm.BQ e' h3 e he h4]
  refine U8 ?_;refine .e (Or.entry (es:=es) (e:=e) (st:=e.born) rfl rfl (fun H hs=> ⟨true,hs.get (i:=0) rfl⟩) (fun H hs=> ⟨true,hs.base _ _ WG⟩) (by simp) KG rfl dE ?_);rw[u2];refine U4 ?_;have hc1:=hp.filterMap sJ;have hb1:=hp.any_eq (f:=yS);have hbE:yS e=(xD u).isNone:=by unfold yS zP;rw[u2];rfl
  have hcE:sJ e=(xD u).map fun n=> .int .i64 (n:Nat):=by unfold sJ zP;rw[u2];rfl
  cases hu:xD u with
  | none=>
   rw[hu] at hbE hcE;refine U2 ?_;refine .cl (fun H hs=> dA.is (.tuple ⟨[.int .i64 0,.bool false]⟩) (by rewrite [hu];rfl) (XY M H u u1)) ?_;refine AV ?_;exact Tc.db (ih ⟨(seen.push e.born,g,true),by simp only;rw[List.filterMap_cons_none hcE] at hc1;exact(List.Perm.append_left _ hc1.symm).trans g1,by simp only;rw[<-g2,hb1,List.any_cons,hbE];simp⟩ (by simp only;rw[hp.length_eq];simp))
  | some n=>
   rw[hu] at hbE hcE;have hn:=GM hu;have YU:g.n+1<=1:=by
    rw[<-EK];have h5:=hc1.length_eq;rw[List.filterMap_cons_some hcE,List.length_cons] at h5;omega
   refine U2 ?_;refine .cl (fun H hs=> dA.is (.tuple ⟨[.int .i64 (n:Nat),.bool true]⟩) (by rewrite [hu];rfl) (XY M H u u1)) ?_;refine yI ?_;refine .e (.bs (zz:=fun bs=> ?_));refine .e (Or.append (E:=en) 2 rfl rfl rfl rfl rfl rfl rfl rfl rfl rfl rfl rfl rfl rfl rfl (fun H hs=> gB.of (hs.get (i:=0) rfl) (Nat.le_of_ble_eq_true rfl)) rfl oM rfl dE (fun g' YX hl=> ?_));refine U3 ?_;exact Tc.db (ih ⟨(seen.push e.born,g',bd),by simp only;rw[hl,List.append_assoc];rw[List.filterMap_cons_some hcE] at hc1;exact(List.Perm.append_left _ hc1.symm).trans g1,by simp only;rw[<-g2,hb1,List.any_cons,hbE];simp⟩ (by simp only;rw[hp.length_eq];simp))
 ·have G6:=fS PA;rw[G6] at g1 g2;simp only[List.filterMap_nil,List.append_nil,List.any_nil,Bool.or_false] at g1 g2;have nD:g.n<=1:=by have:=g1.length_eq;omega
  have RX:g.l=WA (k.yC code) 32:=by
   have h3:=g1.length_eq
   match hx:g.l,hy:WA (k.yC code) 32 with
   | [],[]=> rfl
   | [a],[b]=> rw[hx,hy] at g1;exact List.perm_singleton.1 g1.symm▸rfl
   | [],_::_=> rw[hx,hy] at h3;simp at h3
   | _::_,[]=> rw[hx,hy] at h3;simp at h3
   | _::_::_,_=> rw[hx] at EK;simp at EK;omega
   | _,_::_::_=> rw[hy] at h1;simp at h1
  subst g2;refine U8 ?_;refine .cl (fun H hs=> dX M H _ g.n g.cap nD) ?_;refine U4 ?_;cases eP:k.bad code with
  | false=>
   have hr:k.refused code=2:=by unfold Lk.refused;rw[eP];rfl
   refine yK ?_;refine .rt hK func19 results19 [_,_,_] ?_;exact fun H' hs=> ⟨View.le_trans hsm.base hs.base,g,by rw[hr];rfl,RX,fun y hy=> ⟨hs.at_ y (by simp[hy]),by cases h:H y.1 with|none=> rfl|some x=> exact(XQ _ x (hs.out y (by simp[hy])) h).elim⟩⟩
  | true=>
   refine U7 ?_;by_cases h0:g.n=0
   ·have hr:k.refused code=1:=by unfold Lk.refused;rw[eP,<-RX,EK,h0];rfl
    refine yK ?_;refine .rt hK func19 results19 [_,_,_] ?_;exact fun H' hs=> ⟨View.le_trans hsm.base hs.base,Gl.nil 3 1,by rw[hr];rfl,by rw[<-RX];exact(List.eq_nil_of_length_eq_zero oM).symm,by simp[Gl.nil,Gl.bl]⟩
   ·have hr:k.refused code=0:=by unfold Lk.refused;rw[eP,<-RX,EK,if_pos rfl,if_neg h0]
    refine uQ ?_;refine .rt hK func19 results19 [_,_,_] ?_;exact fun H' hs=> ⟨View.le_trans hsm.base hs.base,g,by rw[hr];rfl,RX,fun y hy=> ⟨hs.at_ y (by simp[hy]),by cases h:H y.1 with|none=> rfl|some x=> exact(XQ _ x (hs.out y (by simp[hy])) h).elim⟩⟩
end
theorem rT(M:Md prog)(H:View)(code:Nat)(h1:code<32):dA M 48 #[.int .i64 code] H (fun v H'=> H.le H'/\∃x,v=YG code x/\(bA code 7).length<=x.2.1/\∀y∈FF code x,H' y.1=some y.2/\H y.1=none):=
 dA.mono (NI M H code h1) (by
  rintro v H' ⟨h2,g,rfl,h3,h4,h5⟩;obtain⟨b,hb⟩:=oL g (by rw[h3];exact(wD code h1).1);refine⟨h2,(b,g.cap,g.vE),?_,by rw[<-h3];exact g.hc,fun y hy=> h5 y ?_⟩
  ·unfold YG Gl.val;rw[hb,h3];rfl
  ·unfold Gl.bl;rw[hb,h4];exact hy)
theorem I8(M:Md prog)(H:View)(k:Lk)(code:Nat)(hG:nC H)(hk:k.ok=true)(hc:code<32):dA M 52 #[k.val,.int .i64 code] H (fun v H'=> H.le H'/\∃x:Nat×Nat×List Value,v=.tuple ⟨[k.val,YG code x,.int .i64 0]⟩/\(bA code 7).length<=x.2.1/\∀y∈FF code x,H' y.1=some y.2/\H y.1=none):=
 dA.mono (xR M H k code hG hk hc) (by
  rintro v H' ⟨h2,g,rfl,⟨h3,h4⟩,h5⟩;obtain⟨b,hb⟩:=oL g (by rw[h3];exact(wD code hc).1);refine⟨h2,(b,g.cap,g.vE),?_,by rw[<-h3];exact g.hc,fun y hy=> h5 y ?_⟩
  ·unfold xL YG Gl.val;rw[hb,h3];rfl
  ·unfold Gl.bl;rw[hb,h4];exact hy)
theorem S5:prog.eqGuardType prog.depth 127=false:=by kernel_rfl
theorem TH(l:List Int)(h:l.length=6):flat en 2 127 (kA l):=by
 refine⟨_,rfl,by rw[rA,h];rfl,fun i hi=> ⟨l[i]?.getD 0,?_⟩⟩;have h3:i<l.length:=by rw[h];exact hi
 unfold chunk;show((kA l).drop (i*1)).take 1=_;rw[Nat.mul_one];unfold kA;have h4:i<(l.map fun x=> Value.int .i64 x).length:=by rw[List.length_map];exact h3
 rw[List.drop_eq_getElem_cons h4,List.getElem_map,List.getElem?_eq_getElem h3];rfl
def vJ(ps:List Nat)(send lean n:Int)(af:List Int)(i:Nat):Int:=ND (ps[0]?.getD 0:Nat) 0 send lean+n+af[i+1]?.getD 0-ND (ps[i+1]?.getD 0:Nat) (i+1:Nat) send lean
def eC(ps:List Nat)(send lean n:Int)(af:List Int)(d:Nat):List Int:=n::(List.range d).map (vJ ps send lean n af)
def Lk.lH(k:Lk)(x:Int):Bool:=decide (k.m0<=x/\x<=k.m1)
def Lk.VE(k:Lk)(ps:List Nat)(send lean n:Int)(af:List Int):Bool:=
 ((List.range (ps.length-1)).all fun i=> k.lH (vJ ps send lean n af i))&&(OA (sD ps (eC ps send lean n af (ps.length-1)) send lean ps.length) ps.length==af)
def Lk.gC(k:Lk)(ps:List Nat)(send lean:Int)(af:List Int)(l:List Int):Bool:=l.any fun n=> k.VE ps send lean n af
def Lk.TF(k:Lk)(ps:List Nat)(send:Int)(af:List Int):Bool:=(VD k.l0 k.l1).any fun lean=> k.gC ps send lean af (VD k.m0 k.m1)
theorem fR {l:List Int}{i:Nat}(h:i<l.length):YB false 1 (kA l) (0+i*1)=some (.int .i64 (l[i]?.getD 0)):=by
 show(kA l)[0+i*1]? =_;rw[Nat.zero_add,Nat.mul_one];unfold kA;rw[List.getElem?_map,List.getElem?_eq_getElem h];rfl
theorem MQ(ps:List Nat)(send lean n:Int)(af:List Int)(d:Nat):eC ps send lean n af (d+1)=eC ps send lean n af d++[vJ ps send lean n af d]:=by
 unfold eC;rw[List.range_succ,List.map_append];rfl
theorem JI(ps:List Nat)(send lean n:Int)(af:List Int)(d:Nat):(eC ps send lean n af d).length=d+1:=by simp[eC]
theorem SV {k:Lk}{ps:List Nat}{send lean n:Int}{af:List Int}{d:Nat}(hm: -1000<=k.m0/\k.m1<=1000)(hn:k.m0<=n/\n<=k.m1)(h:∀i,i<d->k.lH (vJ ps send lean n af i)=true)(i:Nat): -1000<=(eC ps send lean n af d)[i]?.getD 0/\(eC ps send lean n af d)[i]?.getD 0<=1000:=by
 by_cases e:i<(eC ps send lean n af d).length
 ·rw[List.getElem?_eq_getElem e];have WC:=List.getElem_mem e;simp only[Option.getD_some];generalize (eC ps send lean n af d)[i]=z at WC;unfold eC at WC;rcases List.mem_cons.1 WC with rfl|WC
  ·omega
  ·obtain⟨j,hj,rfl⟩:=List.mem_map.1 WC;have:=h j (List.mem_range.1 hj);unfold Lk.lH at this;rw[decide_eq_true_iff] at this;omega
 ·rw[List.getElem?_eq_none oM];simp
theorem XN:∀ {l m:List Int},kA l=kA m->l=m
 | [],[],_=> rfl
 | [],_::_,h=> by cases h
 | _::_,[],h=> by cases h
 | a::l,b::m,h=> by
  have h1:Value.int .i64 a::kA l=Value.int .i64 b::kA m:=h
  injection h1 with h2 h3
  injection h2 with _ h4
  rw[h4,XN h3]
section
variable(M:Md prog)(H:View)
def gL(code eb ec:Nat)(k:Lk)(send:Int)(af:List Int)(found:Bool)(b4 b5 b6 b7 b8 b9:Nat):Bl:=
 [(b9,true,.cells ⟨[.int .i64 k.m0,.int .i64 k.m1]⟩ 162 (0,0)),(b8,true,.cells ⟨[.bool found]⟩ 4 (0,0)),(b7,true,.cells ⟨kA af⟩ 127 (0,0)),(b6,true,.cells ⟨[.int .i64 send]⟩ 3 (0,0)),(b5,true,.cells ⟨[.int .i64 code,.slice (some ⟨eb,0,none⟩) (bA code 7).length ec]⟩ 105 (0,0)),
   (b4,true,.cells ⟨k.val.cells.toList⟩ 112 (0,0))]
theorem EU(k:Lk)(hk:k.cH)(code eb ec:Nat)(send:Int)(af:List Int)(hc:code<32)(hE:VZ H (bA code 7) eb)(hec:(bA code 7).length<=ec)(h2:2<=(bA code 7).length)(h6:af.length=6)(hb:∀x∈af, -100000<=x/\x<=100000)(SN:0<=send/\send<=1000):
  dA M 100 #[k.val,.agg ⟨[.int .i64 code,.slice (some ⟨eb,0,none⟩) (bA code 7).length ec]⟩,.int .i64 send,pK af] H (fun v H'=> H.le H'/\v=.bool (k.TF (bA code 7) send af)):=by
 obtain⟨hp0,eM,XU⟩:=wD code hc;have eP:=hk.bounds;simp only[List.mem_cons,List.not_mem_nil,or_false,forall_eq_or_imp,forall_eq] at eP;obtain⟨k1,k2,k3,k4,k5,k6,k7,k8⟩:=eP;have hkl:=hk.l;have hkm:=hk.m;refine .en func100 ntmps100 fun St c cs hK=> ?_;refine U2 ?_;refine .bo fun b4=> ?_;refine .bo fun b5=> ?_;refine .bo fun b6=> ?_;refine .bo fun b7=> ?_;refine .al fun b8=> ?_;refine U7 ?_;refine .cl (fun H hs=> eD M H k.m0 k.m1) ?_;refine .al fun b9=> ?_;refine U9 ?_;refine .cl (fun H hs=> eD M H k.l0 k.l1) ?_;refine U3 ?_;have itL:=fun H (_:(fun _:View=> True) H)=> zI M H k.l0 k.l1 oM oM;have itM:=fun H (_:(fun _:View=> True) H)=> zI M H k.m0 k.m1 oM oM;refine Tc.db (R':= [(27,.func (.func 99) #[WB k.l0 k.l1] #[]),(5,.pointer (some ⟨b5,0,none⟩)),(6,.pointer (some ⟨b6,0,none⟩)),(7,.pointer (some ⟨b7,0,none⟩)),(8,.pointer (some ⟨b8,0,none⟩)),(9,.pointer (some ⟨b9,0,none⟩))]) (L':=gL code eb ec k send af false b4 b5 b6 b7 b8 b9) ?_;refine Tc.EM (A:= []) (xs:=VD k.l0 k.l1) (ts:= [28]) (fun rest H₁ L₁=> L₁=gL code eb ec k send af false b4 b5 b6 b7 b8 b9/\H.le H₁/\(rest.any fun lean=> k.gC (bA code 7) send lean af (VD k.m0 k.m1))=k.TF (bA code 7) send af)
  (fun j H₁ L₁=> j=.ret/\H.le H₁/\k.TF (bA code 7) send af=true/\L₁=gL code eb ec k send af true b4 b5 b6 b7 b8 b9) rfl rfl rfl rfl itL (fun _ _ _ h=> h) (fun _ _ _ _=> trivial) rfl (fun _ _=> rfl) ⟨rfl,View.le_refl _,rfl⟩ ?_ ?_ ?_
 ·rintro r lean rest e l tmps asg bdy H₁ _ hl ⟨rfl,nD,D2⟩ Q1 St1 cc1 cs1 mQ q1 q1';have O7:=ID.1 hl;unfold gL;refine U ?_;refine .al fun b10=> ?_;refine U2 ?_;refine Tc.beginRound (i:=1) rfl rfl rfl ?_;refine U ?_;refine Tc.scope ?_;refine U ?_;refine Tc.label ?_;refine U6 ?_;refine Tc.FM (A:= []) (i:=1) (xs:=VD k.m0 k.m1) (ts:= [31]) (fun rest2 H₂ L₂=> L₂=(b10,true,.cells ⟨[.int .i64 lean]⟩ 3 (0,0))::(l,true,.loop { Loop.fresh 100 tmps [28].toArray asg bdy r with state:=.busy })::(r,true,.deferred (some []))::gL code eb ec k send af false b4 b5 b6 b7 b8 b9/\H.le H₂/\k.gC (bA code 7) send lean af rest2=k.gC (bA code 7) send lean af (VD k.m0 k.m1))
   (fun j H₂ L₂=> j=.ret/\H.le H₂/\k.TF (bA code 7) send af=true/\L₂=(b10,true,.cells ⟨[.int .i64 lean]⟩ 3 (0,0))::(l,true,.loop { Loop.fresh 100 tmps [28].toArray asg bdy r with state:=.busy })::(r,true,.deferred (some []))::gL code eb ec k send af true b4 b5 b6 b7 b8 b9)
   rfl rfl rfl rfl rfl itM (fun _ _ _ h=> h) (fun _ _ _ _=> trivial) rfl (fun _ _=> rfl) ⟨rfl,nD,rfl⟩ ?_ ?_ ?_
  ·rintro n rest2 e2 l2 tmps2 asg2 bdy2 H₂ _ hn ⟨rfl,IE,RQ⟩ Q2 St2 cc2 cs2 B2 q2 q2';have YX:=ID.1 hn;unfold gL;refine U3 ?_;refine Tc.beginRound (i:=0) rfl rfl rfl ?_;refine U3 ?_;refine .x (.ld 7) ?_;refine U2 ?_;refine .e (.bs (zz:=fun bs=> ?_));refine U ?_;refine .al fun b12=> ?_;refine U2 ?_;refine Tc.lift (L₂:= [_,_]) rfl (fun Hx hx=> ?_);have x10:=hx.get (i:=1) rfl;have x9:=hx.get (i:=4) rfl;have x8:=hx.get (i:=5) rfl;have x7:=hx.get (i:=6) rfl;have x6:=hx.get (i:=7) rfl;have x5:=hx.get (i:=8) rfl;obtain⟨fe,es,et,ez,SS,QQ⟩:=hE.le (View.le_trans IE hx.base);have f0:YB true 2 es (0+(0:Int).toNat*2)=some (FD ((bA code 7)[0]?.getD 0) 0):=QQ 0 hp0;have b0:=XU 0 hp0;have st0:=bF (place:=((bA code 7)[0]?.getD 0:Nat)) (number:=((0:Nat):Int)) (send:=send) (lean:=lean) oM oM SN.1 SN.2 oM oM;have st0':=bF (place:=((bA code 7)[0]?.getD 0:Nat)) (number:=0) (send:=send) (lean:=lean) oM oM SN.1 SN.2 oM oM;have f7:YB true 6 (kA af) 0=some (.agg ⟨kA af⟩):=by
    unfold YB;have e1:Nat.ble (0+6) (kA af).length=true:=by rw[rA,h6];rfl
    simp only[e1];rw[List.drop_zero,List.take_of_length_le (by rw[rA,h6];exact Nat.le_refl _)]
   refine U ?_;refine Tc.dr [] [] mixed rfl ?_;refine V6 0 ?_;refine .z 6 rfl (mA.tk fun H hs=> ZH M H ((bA code 7)[0]?.getD 0:Nat) ((0:Nat):Int) send lean oM oM oM SN.1 SN.2 oM oM) ?_;refine V3 7 ?_;refine .dn ?_;refine U5 ?_;refine .x (mA.slice (E:=en) (l:=1) (h:=((bA code 7).length:Nat)) (off':=0+1*2) rfl rfl rfl rfl rfl rfl rfl rfl oM oM oM (by rw[if_neg oM];rfl)) ?_;refine U4 ?_;refine Tc.TE (Tc.IA (σ:= { s:Nat×Gl 3 1//s.1<=(bA code 7).length-1/\s.2.l=kA (eC (bA code 7) send lean n af s.1)/\∀i,i<s.1->k.lH (vJ (bA code 7) send lean n af i)=true })
    (fun s=> ([(50,.int .i64 (s.1.1:Nat)),(49,.int .i64 (((bA code 7).length-1:Nat):Int)),(48,.slice (some ⟨eb,0+1*2,none⟩) ((bA code 7).length-1) (ec-1)),(13,.int .i64 (ND ((bA code 7)[0]?.getD 0:Nat) 0 send lean+n)),(12,.pointer (some ⟨b12,0,none⟩)),(10,.pointer (some ⟨b10,0,none⟩)),(5,.pointer (some ⟨b5,0,none⟩)),(6,.pointer (some ⟨b6,0,none⟩)),(7,.pointer (some ⟨b7,0,none⟩)),(8,.pointer (some ⟨b8,0,none⟩)),(9,.pointer (some ⟨b9,0,none⟩))],(b12,true,.cells ⟨[.int .i64 send,.int .i64 0,.int .i64 lean,s.1.2.val]⟩ 53 (0,0))::s.1.2.bl)) (fun s=> (bA code 7).length-1-s.1.1) ?_
    ⟨(0,⟨some bs,1,1,[.int .i64 n],[],rfl,Nat.le_refl _,rfl,nofun⟩),by simp,rfl,nofun⟩) ⟨rfl,rfl,rfl,rfl,rfl,rfl,rfl,rfl,rfl,rfl,rfl,trivial⟩ (List.Sublist.refl _)
   rintro⟨⟨j,g⟩,g1,g2,g3⟩ ih;simp only at g1 g2 g3;show Tc _ _ _ _ _ _ [(50,.int .i64 (j:Nat)),(49,.int .i64 (((bA code 7).length-1:Nat):Int)),(48,.slice (some ⟨eb,0+1*2,none⟩) ((bA code 7).length-1) (ec-1)),(13,.int .i64 (ND ((bA code 7)[0]?.getD 0:Nat) 0 send lean+n)),(12,.pointer (some ⟨b12,0,none⟩)),(10,.pointer (some ⟨b10,0,none⟩)),(5,.pointer (some ⟨b5,0,none⟩)),(6,.pointer (some ⟨b6,0,none⟩)),(7,.pointer (some ⟨b7,0,none⟩)),(8,.pointer (some ⟨b8,0,none⟩)),(9,.pointer (some ⟨b9,0,none⟩))] ((b12,true,.cells ⟨[.int .i64 send,.int .i64 0,.int .i64 lean,g.val]⟩ 53 (0,0))::g.bl) _ _;by_cases c1:j=(bA code 7).length-1
   ·have EK:g.n=(bA code 7).length:=by
     have h1:=g.hl;rw[g2,rA,JI] at h1;omega
    obtain⟨_|vb,gn,gc,gll,gj,e1,e2,e3,e4⟩:=g
    ·have:=e4 rfl;simp only at EK;omega
    simp only at EK g2;subst EK;subst g2;have IZ:=SV (ps:=bA code 7) (send:=send) (lean:=lean) (n:=n) (af:=af) hkm YX g3;rw[c1] at IZ g3;have hV2:∀i:Nat,i<(bA code 7).length->YB false 1 (kA (eC (bA code 7) send lean n af ((bA code 7).length-1))++gj) (0+i*1)=some (.int .i64 ((eC (bA code 7) send lean n af ((bA code 7).length-1))[i]?.getD 0)):=fun i hi=> by
     have RN:i<(eC (bA code 7) send lean n af ((bA code 7).length-1)).length:=by rw[JI];omega
     have:=fR RN;unfold YB at this ⊢;simp only at this ⊢;rw[List.getElem?_append_left (by rw[rA];omega)];exact this
    have hsl:=GC (sD (bA code 7) (eC (bA code 7) send lean n af ((bA code 7).length-1)) send lean (bA code 7).length) (bA code 7).length;rw[QC] at hsl;have hsb:∀z∈sD (bA code 7) (eC (bA code 7) send lean n af ((bA code 7).length-1)) send lean (bA code 7).length, -1000000000<=z/\z<=1000000000:=by
     intro z hz;unfold sD at hz;obtain⟨i,hi,rfl⟩:=List.mem_map.1 hz;split
     ·rename_i hi2
      unfold seenAt;have h1:=IZ i;have h2:=XU i hi2;have h3:=bF (place:=((bA code 7)[i]?.getD 0:Nat)) (number:=(i:Nat)) (send:=send) (lean:=lean) oM oM SN.1 SN.2 oM oM;omega
     ·omega
    subst c1;have PA:((List.range ((bA code 7).length-1)).all fun i=> k.lH (vJ (bA code 7) send lean n af i))=true:=by
     rw[List.all_eq_true];intro i hi;exact g3 i (List.mem_range.1 hi)
    by_cases hq:OA (sD (bA code 7) (eC (bA code 7) send lean n af ((bA code 7).length-1)) send lean (bA code 7).length) (bA code 7).length=af
    ·have TV:k.VE (bA code 7) send lean n af=true:=by
      unfold Lk.VE;rw[PA,hq];simp
     have iY:k.TF (bA code 7) send af=true:=by
      rw[<-D2,List.any_cons,<-RQ];unfold Lk.gC;rw[List.any_cons,TV];rfl
     refine U8 ?_;refine Tc.dr [] [] mixed rfl ?_;refine V2 0 ?_;refine .z 2 rfl (mA.tk fun H hs=> ZY M H (code:Int) send 0 lean (bA code 7) (eC (bA code 7) send lean n af ((bA code 7).length-1)) eb 0 ec vb 0 gc fe true es _ et 3 ez (0,0) (hs.base _ _ SS) QQ (hs.get (i:=1) rfl) hV2 eM XU IZ SN.1 SN.2 oM oM _ (Nat.le_refl _)) ?_;refine V3 3 ?_;refine .z 6 rfl (mA.tk fun H hs=> PO M H _ (bA code 7).length (QC ..) eM hsb) ?_;refine .nn 7 ?_;refine .q 8 rfl (mA.eqA (E:=en) true 2 rfl rfl rfl rfl rfl S5 dE (TH _ hsl) (TH af h6) ⟨fun _=> by rw[hq],fun _=> rfl⟩) ?_;refine .dn ?_;refine Tc.expand hx ?_;refine U3 ?_;refine .e (.st 7 (zz:=?_));refine U ?_;refine Tc.AA B2 (i:=2) rfl (.inr (.inl ⟨_,rfl,rfl⟩)) (fun H' hs'=> q2' H' _ _ _ (hs'.less sL) ⟨rfl,IE,iY,rfl⟩)
    ·have TV:k.VE (bA code 7) send lean n af=false:=by
      unfold Lk.VE;rw[PA];simp[hq]
     have SQ:k.gC (bA code 7) send lean af rest2=k.gC (bA code 7) send lean af (VD k.m0 k.m1):=by
      rw[<-RQ];unfold Lk.gC;rw[List.any_cons,TV];rfl
     refine U8 ?_;refine Tc.dr [] [] mixed rfl ?_;refine V2 0 ?_;refine .z 2 rfl (mA.tk fun H hs=> ZY M H (code:Int) send 0 lean (bA code 7) (eC (bA code 7) send lean n af ((bA code 7).length-1)) eb 0 ec vb 0 gc fe true es _ et 3 ez (0,0) (hs.base _ _ SS) QQ (hs.get (i:=1) rfl) hV2 eM XU IZ SN.1 SN.2 oM oM _ (Nat.le_refl _)) ?_;refine V3 3 ?_;refine .z 6 rfl (mA.tk fun H hs=> PO M H _ (bA code 7).length (QC ..) eM hsb) ?_;refine .nn 7 ?_;refine .q 8 rfl (mA.eqA (E:=en) false 2 rfl rfl rfl rfl rfl S5 dE (TH _ hsl) (TH af h6) ⟨(fun h=> nomatch h),fun h=> (hq (XN h)).elim⟩) ?_;refine .dn ?_;refine Tc.expand hx ?_;refine U3 ?_;refine Tc.AA B2 (i:=2) rfl (.inl ⟨rfl,rfl⟩) (fun H' hs'=> q2 H' _ _ (hs'.less sL) ⟨rfl,IE,SQ⟩)
   ·have c2:j<(bA code 7).length-1:=by omega
    have EK:g.n=j+1:=by
     have h1:=g.hl;rw[g2,rA,JI] at h1;omega
    have f1:YB true 2 es ((0+1*2)+(j:Int).toNat*2)=some (FD ((bA code 7)[j+1]?.getD 0) (j+1)):=by
     rw[show(0+1*2)+(j:Int).toNat*2=0+(j+1)*2 by simp;omega];exact QQ (j+1) oM
    have f2:YB false 1 (kA af) (0+((j:Int)+1).toNat*1)=some (.int .i64 (af[j+1]?.getD 0)):=by
     rw[show((j:Int)+1).toNat=j+1 by omega];exact fR oM
    have hb1:=XU (j+1) oM;have st1:=bF (place:=((bA code 7)[j+1]?.getD 0:Nat)) (number:=((j+1:Nat):Int)) (send:=send) (lean:=lean) oM oM SN.1 SN.2 oM oM;have hbf: -100000<=af[j+1]?.getD 0/\af[j+1]?.getD 0<=100000:=by
     have iB:j+1<af.length:=by omega
     rw[List.getElem?_eq_getElem iB];exact hb _ (List.getElem_mem iB)
    cases sP:k.lH (vJ (bA code 7) send lean n af j) with
    | true=>
     refine yI ?_;refine .al fun b15=> ?_;refine U4 ?_;refine Tc.dr [] [] mixed rfl ?_;refine V9 0 ?_;refine .z 9 rfl (mA.tk fun H hs=> ZH M H ((bA code 7)[j+1]?.getD 0:Nat) ((j+1:Nat):Int) send lean oM oM oM SN.1 SN.2 oM oM) ?_;refine V2 10 ?_;refine .dn ?_;refine U5 ?_;refine .cl (fun H hs=> dA.mono (q6 M H k.m0 k.m1 (vJ (bA code 7) send lean n af j)) (Q':=fun v H'=> H.le H'/\v=.bool true) (by rintro v H' ⟨h1,h2⟩;unfold Lk.lH at sP;rw[sP] at h2;exact⟨h1,h2⟩)) ?_;refine U8 ?_;refine .e (.bs (zz:=fun bs2=> ?_));refine .e (Or.append (E:=en) 3 rfl rfl rfl rfl rfl rfl rfl rfl rfl rfl rfl rfl rfl rfl rfl (fun H hs=> gB.of (hs.get (i:=0) rfl) (Nat.le_of_ble_eq_true rfl)) rfl oM rfl dE (fun g' B6 P2=> ?_));refine U8 ?_;exact Tc.db (ih ⟨(j+1,g'),by simp only;omega,by simp only;rw[P2,g2,MQ];unfold kA;rw[List.map_append];rfl,by simp only;intro i hi;rcases Nat.lt_succ_iff_lt_or_eq.1 hi with h|rfl;exact g3 i h;exact sP⟩ (by simp only;omega))
    | false=>
     have TV:k.VE (bA code 7) send lean n af=false:=by
      unfold Lk.VE;rw[Bool.and_eq_false_iff];refine .inl ?_;rw[List.all_eq_false];exact⟨j,List.mem_range.2 c2,by rw[sP];simp⟩
     have SQ:k.gC (bA code 7) send lean af rest2=k.gC (bA code 7) send lean af (VD k.m0 k.m1):=by
      rw[<-RQ];unfold Lk.gC;rw[List.any_cons,TV];rfl
     refine yI ?_;refine .al fun b15=> ?_;refine U4 ?_;refine Tc.dr [] [] mixed rfl ?_;refine V9 0 ?_;refine .z 9 rfl (mA.tk fun H hs=> ZH M H ((bA code 7)[j+1]?.getD 0:Nat) ((j+1:Nat):Int) send lean oM oM oM SN.1 SN.2 oM oM) ?_;refine V2 10 ?_;refine .dn ?_;refine U5 ?_;refine .cl (fun H hs=> dA.mono (q6 M H k.m0 k.m1 (vJ (bA code 7) send lean n af j)) (Q':=fun v H'=> H.le H'/\v=.bool false) (by rintro v H' ⟨h1,h2⟩;unfold Lk.lH at sP;rw[sP] at h2;exact⟨h1,h2⟩)) ?_;refine U2 ?_;refine Tc.TE (R':= [(69,.bool true)]) (L':= []) ?_ ⟨rfl,trivial⟩ (List.nil_sublist _);refine Tc.expand hx ?_;refine U2 ?_;refine Tc.AA B2 (i:=0) rfl (.inl ⟨rfl,rfl⟩) (fun H' hs'=> q2 H' _ _ (hs'.less sL) ⟨rfl,IE,SQ⟩)
  ·rintro H₂ _ ⟨rfl,IE,RQ⟩;have dN:k.gC (bA code 7) send lean af (VD k.m0 k.m1)=false:=RQ.symm;have SQ:(rest.any fun lean=> k.gC (bA code 7) send lean af (VD k.m0 k.m1))=k.TF (bA code 7) send af:=by
    rw[<-D2,List.any_cons,dN];rfl
   refine U ?_;refine Tc.inScope ?_;refine U ?_;refine Tc.AA mQ (i:=1) rfl (.inl ⟨rfl,rfl⟩) (fun H' hs'=> q1 H' _ _ (hs'.less sL) ⟨rfl,IE,SQ⟩)
  ·rintro j H₂ _ ⟨rfl,IE,iY,rfl⟩;refine Tc.AA mQ (i:=1) rfl (.inr (.inl ⟨_,rfl,rfl⟩)) (fun H' hs'=> q1' H' _ _ _ (hs'.less sL) ⟨rfl,IE,iY,rfl⟩)
 ·rintro r H₁ _ ⟨rfl,nD,D2⟩;have dN:k.TF (bA code 7) send af=false:=D2.symm;unfold gL;refine U5 ?_;refine Tc.PR (E:=en) (i:=0) hK func100 results100 (vs:= [_]) rfl (by refine⟨⟨2,_,_,_,_,_,_,_,rfl,rfl,rfl,rfl⟩,?_⟩;exact trivial) ?_;exact fun H' hs=> ⟨View.le_trans nD hs.base,by rw[dN];rfl⟩
 ·rintro r j H₁ _ ⟨rfl,nD,iY,rfl⟩;unfold gL;refine Tc.PR (E:=en) (i:=0) hK func100 results100 (vs:= [_]) rfl (by refine⟨⟨2,_,_,_,_,_,_,_,rfl,rfl,rfl,rfl⟩,?_⟩;exact trivial) ?_;exact fun H' hs=> ⟨View.le_trans nD hs.base,by rw[iY];rfl⟩
end
def DC(l:List Int):List Int:=l++List.replicate (6-l.length) 0
theorem mE {l:List Int}(h:l.length<=6):(DC l).length=6:=by simp[DC];omega
def GG(p:Int->Bool):List Int->Option (Int×Int)->Option (Int×Int)
 | [],o=> o
 | n::l,o=> GG p l (if p n then some (match o with|some (a,_)=> (a,n)|none=> (n,n)) else o)
def Lk.iL(k:Lk)(ps:List Nat)(t:List Int):Option (Int×Int):=GG (fun n=> k.TF ps n (OA t ps.length)) (VD k.s0 k.s1) none
def aAz(o:Option (Int×Int)):Value:=match o with|some (a,b)=> WB a b|none=> WB 0 0
def DV(o:Option (Int×Int)):List Value:=match o with|some (a,b)=> [.int .i64 a,.int .i64 b] | none=> [.int .i64 0,.int .i64 0]
section
variable(M:Md prog)(H:View)
def tL(code eb ec:Nat)(k:Lk)(t:List Int)(o:Option (Int×Int))(b3 b4 b5 b6 b7 b8 n:Nat):Bl:=
 [(b8,true,.cells ⟨kA (OA t n)⟩ 127 (0,0)),(b7,true,.cells ⟨[.bool o.isSome]⟩ 4 (0,0)),(b6,true,.cells ⟨DV o⟩ 23 (0,0)),(b5,true,.cells ⟨kA t⟩ 127 (0,0)),
   (b4,true,.cells ⟨[.int .i64 code,.slice (some ⟨eb,0,none⟩) n ec]⟩ 105 (0,0)),(b3,true,.cells ⟨k.val.cells.toList⟩ 112 (0,0))]
theorem XP(k:Lk)(hk:k.cH)(code eb ec:Nat)(t:List Int)(hc:code<32)(hE:VZ H (bA code 7) eb)(hec:(bA code 7).length<=ec)(h2:2<=(bA code 7).length)(h6:t.length=6)(hb:∀x∈t, -10000<=x/\x<=10000):
  dA M 65 #[k.val,.agg ⟨[.int .i64 code,.slice (some ⟨eb,0,none⟩) (bA code 7).length ec]⟩,pK t] H (fun v H'=> H.le H'/\v=.tuple ⟨[aAz (k.iL (bA code 7) t),.bool (k.iL (bA code 7) t).isSome]⟩):=by
 obtain⟨hp0,eM,XU⟩:=wD code hc;have eP:=hk.bounds;simp only[List.mem_cons,List.not_mem_nil,or_false,forall_eq_or_imp,forall_eq] at eP;obtain⟨k1,k2,k3,k4,k5,k6,k7,k8⟩:=eP;have hks:=hk.s;have hal:(OA t (bA code 7).length).length=6:=by rw[GC,h6]
 have p6:∀x∈OA t (bA code 7).length, -100000<=x/\x<=100000:=by
  intro x hx;unfold OA at hx;obtain⟨y,hy,rfl⟩:=List.mem_map.1 hx;have h3:=hb y.1 (by
   have:=List.mem_zipIdx_iff_getElem?.1 hy;exact List.mem_of_getElem? this)
  have h4: -10000<=t.headD 0/\t.headD 0<=10000:=by
   cases t with
   | nil=> cases h6
   | cons a l=> exact hb a List.mem_cons_self
  split <;> omega
 have fT:YB true 6 (kA t) 0=some (.agg ⟨kA t⟩):=by
  unfold YB;have e1:Nat.ble (0+6) (kA t).length=true:=by rw[rA,h6];rfl
  simp only[e1];rw[List.drop_zero,List.take_of_length_le (by rw[rA,h6];exact Nat.le_refl _)]
 have fA:YB true 6 (kA (OA t (bA code 7).length)) 0=some (.agg ⟨kA (OA t (bA code 7).length)⟩):=by
  unfold YB;have e1:Nat.ble (0+6) (kA (OA t (bA code 7).length)).length=true:=by rw[rA,hal];rfl
  simp only[e1];rw[List.drop_zero,List.take_of_length_le (by rw[rA,hal];exact Nat.le_refl _)]
 have lA:Nat.beq (kA (OA t (bA code 7).length)).length 6=true:=by rw[rA,hal];rfl
 have lB:(kA (OA t (bA code 7).length)).all single=true:=by
  rw[List.all_eq_true];intro y hy;obtain⟨z,_,rfl⟩:=List.mem_map.1 hy;rfl
 have lC:zE [Value.int .i64 0,.int .i64 0,.int .i64 0,.int .i64 0,.int .i64 0,.int .i64 0] 0 (kA (OA t (bA code 7).length))=kA (OA t (bA code 7).length):=by
  unfold zE;rw[List.take_zero,List.nil_append,List.drop_eq_nil_of_le (by rw[rA,hal];simp),List.append_nil]
 refine .en func65 ntmps65 fun St c cs hK=> ?_;refine U2 ?_;refine .bo fun b3=> ?_;refine .bo fun b4=> ?_;refine .bo fun b5=> ?_;refine .al fun b6=> ?_;refine .al fun b7=> ?_;refine U7 ?_;refine .cl (fun H hs=> PO M H t (bA code 7).length h6 eM (fun x hx=> by have:=hb x hx;omega)) ?_;refine .al fun b8=> ?_;refine .e (Or.storeT (E:=en) 0 rfl rfl rfl rfl rfl lA rfl (by exact rfl) lB rfl lC ?_);refine U7 ?_;refine .cl (fun H hs=> eD M H k.s0 k.s1) ?_;refine U3 ?_;have itS:=fun H (_:(fun _:View=> True) H)=> zI M H k.s0 k.s1 oM oM;refine Tc.db (R':= [(19,.func (.func 99) #[WB k.s0 k.s1] #[]),(3,.pointer (some ⟨b3,0,none⟩)),(4,.pointer (some ⟨b4,0,none⟩)),(6,.pointer (some ⟨b6,0,none⟩)),(7,.pointer (some ⟨b7,0,none⟩)),(8,.pointer (some ⟨b8,0,none⟩))]) (L':=tL code eb ec k t none b3 b4 b5 b6 b7 b8 (bA code 7).length) ?_;refine Tc.EM (A:= []) (xs:=VD k.s0 k.s1) (ts:= [20]) (fun rest H₁ L₁=> ∃o,L₁=tL code eb ec k t o b3 b4 b5 b6 b7 b8 (bA code 7).length/\H.le H₁/\GG (fun n=> k.TF (bA code 7) n (OA t (bA code 7).length)) rest o=k.iL (bA code 7) t)
  (fun _ _ _=> False) rfl rfl rfl rfl itS (fun _ _ _ h=> h) (fun _ _ _ _=> trivial) rfl (fun _ _=> rfl) ⟨none,rfl,View.le_refl _,rfl⟩ ?_ ?_ ?_
 ·rintro r n rest e l tmps asg bdy H₁ _ hn ⟨o,rfl,nD,hto⟩ Q1 St1 cc1 cs1 mQ q1 q1';have YX:=ID.1 hn;unfold tL;refine U3 ?_;refine Tc.beginRound (i:=0) rfl rfl rfl ?_;refine U3 ?_;cases hg:k.TF (bA code 7) n (OA t (bA code 7).length) with
  | false=>
   have eR:GG (fun n=> k.TF (bA code 7) n (OA t (bA code 7).length)) rest o=k.iL (bA code 7) t:=by
    rw[<-hto];unfold GG;simp only[hg];cases rest <;> rfl
   refine U ?_;refine .x (.ld 7) ?_;refine U3 ?_;refine .cl (fun H hs=> dA.is (.bool false) (by rewrite [hg];rfl) (EU M H k hk code eb ec n (OA t (bA code 7).length) hc ((hE.le nD).le hs.base) hec h2 hal p6 oM)) ?_;refine U4 ?_;refine Tc.AA mQ (i:=0) rfl (.inl ⟨rfl,rfl⟩) (fun H' hs'=> q1 H' _ _ (hs'.less sL) ⟨o,rfl,nD,eR⟩)
  | true=>
   refine U ?_;refine .x (.ld 7) ?_;refine U3 ?_;refine .cl (fun H hs=> dA.is (.bool true) (by rewrite [hg];rfl) (EU M H k hk code eb ec n (OA t (bA code 7).length) hc ((hE.le nD).le hs.base) hec h2 hal p6 oM)) ?_;refine U2 ?_;cases o with
   | none=>
    have eR:GG (fun n=> k.TF (bA code 7) n (OA t (bA code 7).length)) rest (some (n,n))=k.iL (bA code 7) t:=by
     rw[<-hto];show _=GG _ rest _;simp only[hg];rfl
    refine B5 ?_;refine Tc.AA mQ (i:=0) rfl (.inl ⟨rfl,rfl⟩) (fun H' hs'=> q1 H' _ _ (hs'.less sL) ⟨some (n,n),rfl,nD,eR⟩)
   | some ab=>
    obtain⟨a,b⟩:=ab;have eR:GG (fun n=> k.TF (bA code 7) n (OA t (bA code 7).length)) rest (some (a,n))=k.iL (bA code 7) t:=by
     rw[<-hto];show _=GG _ rest _;simp only[hg];rfl
    refine PW ?_;refine Tc.AA mQ (i:=0) rfl (.inl ⟨rfl,rfl⟩) (fun H' hs'=> q1 H' _ _ (hs'.less sL) ⟨some (a,n),rfl,nD,eR⟩)
 ·rintro r H₁ _ ⟨o,rfl,nD,hto⟩;have eR:o=k.iL (bA code 7) t:=hto;unfold tL;refine U2 ?_;cases o with
  | none=>
   refine Tc.dr [2,3] [3] mixed rfl ?_;refine .nn 0 ?_;refine .nw 1 ?_;refine .e 2 3 ?_;refine .e 3 2 ?_;refine .dn ?_;refine Tc.PR (E:=en) (i:=0) hK func65 results65 (vs:= [_,_]) rfl (by refine⟨⟨3,_,_,_,_,_,_,_,rfl,rfl,rfl,rfl⟩,?_⟩;refine⟨⟨2,_,_,_,_,_,_,_,rfl,rfl,rfl,rfl⟩,?_⟩;exact trivial) ?_;exact fun H' hs=> ⟨View.le_trans nD hs.base,by rw[<-eR];rfl⟩
  | some ab=>
   obtain⟨a,b⟩:=ab;refine Tc.dr [2,3] [3] mixed rfl ?_;refine .nn 0 ?_;refine .nw 1 ?_;refine .e 2 3 ?_;refine .e 3 2 ?_;refine .dn ?_;refine Tc.PR (E:=en) (i:=0) hK func65 results65 (vs:= [_,_]) rfl (by refine⟨⟨3,_,_,_,_,_,_,_,rfl,rfl,rfl,rfl⟩,?_⟩;refine⟨⟨2,_,_,_,_,_,_,_,rfl,rfl,rfl,rfl⟩,?_⟩;exact trivial) ?_;exact fun H' hs=> ⟨View.le_trans nD hs.base,by rw[<-eR];rfl⟩
 ·rintro r j H₁ _ h;exact h.elim
end
structure Told(l:List Int):Prop where
 len:l.length<=6
 pos:l≠ []
 max:∀x∈l, -999<=x/\x<=999
structure lG(H:View)(A:Option Addr)(l:List Int):Prop where
 ex:∃ab ao f gs gt gz,A=some ⟨ab,ao,none⟩/\H ab=some (f,.cells ⟨gs⟩ gt gz)/\ao+l.length*1<=gs.length/\(gs.drop ao).take (l.length*1)=kA l
theorem lG.le {H H':View}{A:Option Addr}{l:List Int}(h:lG H A l)(k:H.le H'):lG H' A l:=by
 obtain⟨ab,ao,f,gs,gt,gz,h1,h2,h3,h4⟩:=h.ex;exact⟨ab,ao,f,gs,gt,gz,h1,k _ _ h2,h3,h4⟩
theorem kZ {gs:List Value}{ao:Nat}{l:List Int}(h:(gs.drop ao).take (l.length*1)=kA l){j:Nat}(hj:j<l.length):YB false 1 gs (ao+(j:Int).toNat*1)=some (.int .i64 (l[j]?.getD 0)):=by
 show gs[ao+(j:Int).toNat*1]? =_;rw[Nat.mul_one,Int.toNat_natCast];have h1:((gs.drop ao).take (l.length*1))[j]? =(kA l)[j]? :=by rw[h]
 rw[List.getElem?_take_of_lt oM,List.getElem?_drop] at h1;rw[h1];unfold kA;rw[List.getElem?_map,List.getElem?_eq_getElem hj];rfl
section
variable(M:Md prog)(H:View)
theorem mZ(l:List Int)(hl:Told l)(A:Option Addr)(cap:Nat)(hT:lG H A l):dA M 63 #[.slice A l.length cap] H (fun v H'=> H.le H'/\v=.tuple ⟨[pK (DC l),.int .i64 0]⟩):=by
 obtain⟨ab,ao,f,gs,gt,gz,rfl,hA1,Z1,hA3⟩:=hT.ex;obtain⟨hl6,aB,VX⟩:=hl;have Y2:kA l≠ []:=by
  cases l with
  | nil=> exact(aB rfl).elim
  | cons a l=> intro e;cases e
 have oQ:(kA l).all single=true:=by
  rw[List.all_eq_true];intro y hy;obtain⟨z,_,rfl⟩:=List.mem_map.1 hy;rfl
 have bB:zE [Value.int .i64 0,.int .i64 0,.int .i64 0,.int .i64 0,.int .i64 0,.int .i64 0] 0 (kA l)=kA (DC l):=by
  unfold zE DC;rw[List.take_zero,List.nil_append,Nat.zero_add,rA];have e1:kA (l++List.replicate (6-l.length) 0)=kA l++kA (List.replicate (6-l.length) 0):=by unfold kA;rw[List.map_append]
  rw[e1]
  congr 1
  have:l.length=0\/l.length=1\/l.length=2\/l.length=3\/l.length=4\/l.length=5\/l.length=6:=by omega
  rcases this with h|h|h|h|h|h|h <;> rw[h] <;> rfl
 have eM:=mE hl6;have fP:YB true 6 (kA (DC l)) 0=some (.agg ⟨kA (DC l)⟩):=by
  unfold YB;have e1:Nat.ble (0+6) (kA (DC l)).length=true:=by rw[rA,eM];rfl
  simp only[e1];rw[List.drop_zero,List.take_of_length_le (by rw[rA,eM];exact Nat.le_refl _)]
 have lA:Nat.beq (kA (DC l)).length 6=true:=by rw[rA,eM];rfl
 have lB:(kA (DC l)).all single=true:=by
  rw[List.all_eq_true];intro y hy;obtain⟨z,_,rfl⟩:=List.mem_map.1 hy;rfl
 have lC:zE [Value.int .i64 0,.int .i64 0,.int .i64 0,.int .i64 0,.int .i64 0,.int .i64 0] 0 (kA (DC l))=kA (DC l):=by
  unfold zE;rw[List.take_zero,List.nil_append,List.drop_eq_nil_of_le (by rw[rA,eM];simp),List.append_nil]
 refine .en func63 ntmps63 fun St c cs hK=> ?_;refine U2 ?_;refine .al fun b2=> ?_;refine U4 ?_;refine .al fun b4=> ?_;refine U9 ?_;refine Tc.db (Tc.IA (σ:= { j:Nat//j<=l.length }) (fun j=> ([(0,.slice (some ⟨ab,ao,none⟩) l.length cap),(2,.pointer (some ⟨b2,0,none⟩)),(4,.pointer (some ⟨b4,0,none⟩)),(7,.slice (some ⟨ab,ao,none⟩) l.length cap),(8,.int .i64 (l.length:Nat)),(9,.int .i64 (j.1:Nat))],
  [(b4,true,.cells ⟨[.int .i64 0,.int .i64 0,.int .i64 0,.int .i64 0,.int .i64 0,.int .i64 0]⟩ 127 (0,0)),(b2,true,.cells ⟨[.int .i64 0,.int .i64 0,.int .i64 0,.int .i64 0,.int .i64 0,.int .i64 0]⟩ 127 (0,0))])) (fun j=> l.length-j.1) ?_ ⟨0,oM⟩)
 rintro⟨j,hj⟩ ih;show Tc M St _ _ _ _ [(0,.slice (some ⟨ab,ao,none⟩) l.length cap),(2,.pointer (some ⟨b2,0,none⟩)),(4,.pointer (some ⟨b4,0,none⟩)),(7,.slice (some ⟨ab,ao,none⟩) l.length cap),(8,.int .i64 (l.length:Nat)),(9,.int .i64 (j:Nat))]
  [(b4,true,.cells ⟨[.int .i64 0,.int .i64 0,.int .i64 0,.int .i64 0,.int .i64 0,.int .i64 0]⟩ 127 (0,0)),(b2,true,.cells ⟨[.int .i64 0,.int .i64 0,.int .i64 0,.int .i64 0,.int .i64 0,.int .i64 0]⟩ 127 (0,0))] _ _
 by_cases c1:j=l.length
 ·refine U9 ?_;refine .x (mA.YI (E:=en) (off':=0) rfl rfl rfl rfl rfl rfl rfl rfl dE dE dE (by rw[if_neg dE];rfl)) ?_;refine U ?_;refine .e (Or.copy (E:=en) (m:=l.length) 0 rfl rfl rfl rfl rfl rfl rfl rfl rfl rfl rfl (fun H hs=> hA3▸gB.of (hs.base _ _ hA1) Z1) oQ hl6 dE Y2 rfl dE bB ?_);refine U4 ?_;refine .e (Or.storeT (E:=en) 1 rfl rfl rfl rfl rfl lA rfl (by exact rfl) lB rfl lC ?_);refine U2 ?_;refine Tc.L8 (E:=en) hK func63 results63 (vs:= [.agg ⟨kA (DC l)⟩,_]) (by refine⟨⟨1,_,_,_,_,_,_,_,rfl,rfl,rfl,fP⟩,⟨rfl,trivial⟩⟩) ?_;exact okB
 ·have c2:j<l.length:=by omega
  have f1:=kZ hA3 c2;have hm:=VX (l[j]?.getD 0) (by rw[List.getElem?_eq_getElem c2];exact List.getElem_mem c2);refine U31 ?_;exact Tc.db (ih ⟨j+1,oM⟩ (by simp only;omega))
theorem YZ(b cap:Nat)(hb:H b=some (true,.cells ⟨[.int .i64 2,.int .i64 4,.int .i64 6]⟩ 3 (0,0))):dA M 96 #[.slice (some ⟨b,0,none⟩) 3 cap,.int .i64 2] H (fun v H'=> H.le H'/\v=.int .i64 0):=by
 refine .en func96 ntmps96 fun St c cs hK=> ?_;refine fH ?_;refine .done (.block (.loop (.sr ?_)));refine U27 ?_;refine .rt hK func96 results96 [_] ?_;exact okB
theorem sS(b cap:Nat)(hb:H b=some (true,.cells ⟨[.int .i64 2,.int .i64 4,.int .i64 6]⟩ 3 (0,0))):dA M 62 #[.slice (some ⟨b,0,none⟩) 3 cap,.int .i64 2] H (fun v H'=> H.le H'/\v=.bool true):=by
 refine .en func62 ntmps62 fun St c cs hK=> ?_;refine U8 ?_;refine .cl (fun H hs=> YZ M H b cap (hs.base _ _ hb)) ?_;refine U3 ?_;refine .rt hK func62 results62 [_] ?_;exact okB
end
theorem yL {l:List Int}(h:Told l):∀x∈DC l, -10000<=x/\x<=10000:=by
 intro x hx;unfold DC at hx;rcases List.mem_append.1 hx with h1|h1
 ·have:=h.max x h1;omega
 ·have:=(List.mem_replicate.1 h1).2;omega
theorem jV {l:List Int}(h:l.length<=6):YB true 6 (kA (DC l)) 0=some (.agg ⟨kA (DC l)⟩):=by
 have eM:=mE h;unfold YB;have e1:Nat.ble (0+6) (kA (DC l)).length=true:=by rw[rA,eM];rfl
 simp only[e1];rw[List.drop_zero,List.take_of_length_le (by rw[rA,eM];exact Nat.le_refl _)]
def Lk.xE(k:Lk)(l:List Int)(c:Nat):Bool:=decide ((bA c 7).length=l.length)&&(k.iL (bA c 7) (DC l)).isSome
def aAw(o:Option (Int×Int))(H:View)(v:Value)(H':View):Prop:=H.le H'/\v=(match o with|some (a,b)=> .tuple ⟨[WB a b,.int .i64 0]⟩|none=> .tuple ⟨[WB 0 0,.int .i64 10]⟩)
section
variable(M:Md prog)(H:View)
theorem FO(m:Nat)(h:m=2)(b cap:Nat)(hb:H b=some (true,.cells ⟨[.int .i64 2,.int .i64 4,.int .i64 6]⟩ 3 (0,0))):dA M 62 #[.slice (some ⟨b,0,none⟩) 3 cap,.int .i64 (m:Nat)] H (fun v H'=> H.le H'/\v=.bool true):=by
 subst h;exact sS M H b cap hb
theorem zW(k:Lk)(hk:k.cH)(l:List Int)(hl:Told l)(h2:2<=l.length)(A:Option Addr)(cap b3 b2 b7:Nat)(hb3:H b3=some (true,.cells ⟨[.slice A l.length cap]⟩ 43 (0,0)))(hb2:H b2=some (true,.cells ⟨k.val.cells.toList⟩ 40 (0,0)))
  (hb7:H b7=some (true,.cells ⟨kA (DC l)⟩ 127 (0,0))):gN M H (.func (.func 64) #[] #[.pointer (some ⟨b3,0,none⟩),.pointer (some ⟨b2,0,none⟩),.pointer (some ⟨b7,0,none⟩)]) 32 (k.xE l):=fun i hi H' hle=> by
 refine TC.of (first:= []) (captured:= [_,_,_]) aCu rfl ?_;have h3:=hle _ _ hb3;have h2':=hle _ _ hb2;have h7:=hle _ _ hb7;have fP:=jV hl.len;refine .en func64 ntmps64 fun St c cs hK=> ?_;refine U7 ?_;refine .e (Or.EA (YG i) (FF i) (fun x=> (bA i 7).length<=x.2.1) rfl rfl rfl rfl rfl dE (VB i) (fun H hs=> .h (rT M H i hi)) (fun x hx=> ?_));refine .al fun b6=> ?_;refine U4 ?_;by_cases hlen:(bA i 7).length=l.length
 ·refine fF ?_;cases ht:k.iL (bA i 7) (DC l) with
  | none=>
   have hso:k.xE l i=false:=by unfold Lk.xE;rw[ht];simp
   refine U5 ?_;refine .cl (fun H hs=> dA.is (.tuple ⟨[WB 0 0,.bool false]⟩) (by rewrite [ht];rfl) (XP M H k hk i x.1 x.2.1 (DC l) hi (mD fun y hy=> hs.at_ y (by simp[hy])) hx oM (mE hl.len) (yL hl))) ?_;refine U3 ?_;refine .al fun b8=> ?_;refine U8 ?_;refine .rt hK func64 results64 [_] ?_;exact fun H2 hs=> ⟨hs.base,by rw[hso];rfl⟩
  | some ab=>
   obtain⟨a,b⟩:=ab;have hso:k.xE l i=true:=by unfold Lk.xE;rw[ht,decide_eq_true hlen];rfl
   refine U5 ?_;refine .cl (fun H hs=> dA.is (.tuple ⟨[WB a b,.bool true]⟩) (by rewrite [ht];rfl) (XP M H k hk i x.1 x.2.1 (DC l) hi (mD fun y hy=> hs.at_ y (by simp[hy])) hx oM (mE hl.len) (yL hl))) ?_;refine U3 ?_;refine .al fun b8=> ?_;refine U8 ?_;refine .rt hK func64 results64 [_] ?_;exact fun H2 hs=> ⟨hs.base,by rw[hso];rfl⟩
 ·have hso:k.xE l i=false:=by unfold Lk.xE;rw[decide_eq_false hlen];rfl
  refine yK ?_;refine .rt hK func64 results64 [_] ?_;exact fun H2 hs=> ⟨hs.base,by rw[hso];rfl⟩
theorem cX(k:Lk)(hG:nC H)(hk:k.ok=true)(l:List Int)(hl:Told l)(h2:l.length=2)(A:Option Addr)(cap:Nat)(hT:lG H A l):dA M 23 #[k.val,.slice A l.length cap] H (sU (WA (k.xE l) 32) H):=by
 refine .en func23 ntmps23 fun St c cs hK=> ?_;have eM:=mE hl.len;have lA:Nat.beq (kA (DC l)).length 6=true:=by rw[rA,eM];rfl
 have lB:(kA (DC l)).all single=true:=by
  rw[List.all_eq_true];intro y hy;obtain⟨z,_,rfl⟩:=List.mem_map.1 hy;rfl
 have lC:zE [Value.int .i64 0,.int .i64 0,.int .i64 0,.int .i64 0,.int .i64 0,.int .i64 0] 0 (kA (DC l))=kA (DC l):=by
  unfold zE;rw[List.take_zero,List.nil_append,List.drop_eq_nil_of_le (by rw[rA,eM];simp),List.append_nil]
 refine U2 ?_;refine .bo fun b2=> ?_;refine .bo fun b3=> ?_;refine U7 ?_;refine .cl (fun H hs=> JC M H k (zA hG hs.base) hk) ?_;refine xK ?_;refine .e (.bs (zz:=fun b4=> ?_));refine U2 ?_;refine .cl (fun H hs=> FO M H l.length h2 b4 3 (hs.get (i:=0) rfl)) ?_;refine U7 ?_;refine .cl (fun H hs=> mZ M H l hl A cap (hT.le hs.base)) ?_;refine U3 ?_;refine .al fun b7=> ?_;refine .e (Or.storeT (E:=en) 0 rfl rfl rfl rfl rfl lA rfl (by exact rfl) lB rfl lC ?_);refine yK ?_;refine .e (Or.EA Gl.val Gl.bl (fun g:Gl 3 1=> g.l=WA (k.xE l) 32) rfl rfl rfl rfl rfl dE tB (fun H hs=> .h (yP M H 32 _ (k.xE l) dE (zW M H k (Lk.bL hk) l hl oM A cap b3 b2 b7 (hs.get (i:=2) rfl) (hs.get (i:=3) rfl) (hs.get (i:=0) rfl)))) (fun g hg=> ?_));refine U3 ?_;refine .rt hK func23 results23 [_,_] ?_;exact fun H' hs=> ⟨hs.base,g,rfl,hg,fun y hy=> ⟨hs.at_ y (by simp[hy]),hs.out y (by simp[hy])⟩⟩
theorem Y6(k:Lk)(code:Nat)(hG:nC H)(hk:k.ok=true)(hc:code<32)(l:List Int)(hl:Told l)(h2:2<=l.length)(hlen:l.length=(bA code 7).length)(A:Option Addr)(cap:Nat)(hT:lG H A l):
  dA M 24 #[k.val,.int .i64 code,.slice A l.length cap] H (aAw (k.iL (bA code 7) (DC l)) H):=by
 refine .en func24 ntmps24 fun St c cs hK=> ?_;have eM:=mE hl.len;have fP:=jV hl.len;have lA:Nat.beq (kA (DC l)).length 6=true:=by rw[rA,eM];rfl
 have lB:(kA (DC l)).all single=true:=by
  rw[List.all_eq_true];intro y hy;obtain⟨z,_,rfl⟩:=List.mem_map.1 hy;rfl
 have lC:zE [Value.int .i64 0,.int .i64 0,.int .i64 0,.int .i64 0,.int .i64 0,.int .i64 0] 0 (kA (DC l))=kA (DC l):=by
  unfold zE;rw[List.take_zero,List.nil_append,List.drop_eq_nil_of_le (by rw[rA,eM];simp),List.append_nil]
 refine U2 ?_;refine .bo fun b3=> ?_;refine .al fun b6=> ?_;refine U6 ?_;refine .e (Or.EA (fun x=> .tuple ⟨[k.val,YG code x,.int .i64 0]⟩) (FF code) (fun x=> (bA code 7).length<=x.2.1) rfl rfl rfl rfl rfl dE (VB code) (fun H hs=> .h (I8 M H k code (zA hG hs.base) hk hc)) (fun x hx=> ?_));refine U4 ?_;refine .al fun b8=> ?_;refine .al fun b9=> ?_;refine U27 ?_;refine .cl (fun H hs=> mZ M H l hl A cap (hT.le hs.base)) ?_;refine U3 ?_;refine .al fun b11=> ?_;refine .e (Or.storeT (E:=en) 0 rfl rfl rfl rfl rfl lA rfl (by exact rfl) lB rfl lC ?_);refine fF ?_;cases ht:k.iL (bA code 7) (DC l) with
 | none=>
  refine U4 ?_;refine .cl (fun H hs=> dA.is (.tuple ⟨[WB 0 0,.bool false]⟩) (by rewrite [ht];rfl) (XP M H k (Lk.bL hk) code x.1 x.2.1 (DC l) hc (mD fun y hy=> hs.at_ y (by simp[hy])) hx oM (mE hl.len) (yL hl))) ?_;refine U3 ?_;refine .al fun b12=> ?_;refine uQ ?_;refine .rt hK func24 results24 [_,_] ?_;exact fun H2 hs=> ⟨hs.base,by rw[ht];rfl⟩
 | some ab=>
  obtain⟨a,b⟩:=ab;refine U4 ?_;refine .cl (fun H hs=> dA.is (.tuple ⟨[WB a b,.bool true]⟩) (by rewrite [ht];rfl) (XP M H k (Lk.bL hk) code x.1 x.2.1 (DC l) hc (mD fun y hy=> hs.at_ y (by simp[hy])) hx oM (mE hl.len) (yL hl))) ?_;refine U3 ?_;refine .al fun b12=> ?_;refine PW ?_;refine .rt hK func24 results24 [_,_] ?_;exact fun H2 hs=> ⟨hs.base,by rw[ht];rfl⟩
end
def TL(a b:Int):Int:=if a<b then -1 else if b<a then 1 else 0
def cmpL:List Int->List Int->Int
 | [],[]=> 0
 | [],_::_=> -1
 | _::_,[]=> 1
 | a::l,b::m=> if TL a b=0 then cmpL l m else TL a b
theorem HV {l m:List Int}{j:Nat}(h1:j<l.length)(h2:j<m.length):cmpL (l.drop j) (m.drop j)=if TL (l[j]?.getD 0) (m[j]?.getD 0)=0 then cmpL (l.drop (j+1)) (m.drop (j+1)) else TL (l[j]?.getD 0) (m[j]?.getD 0):=by
 rw[List.drop_eq_getElem_cons h1,List.drop_eq_getElem_cons h2,List.getElem?_eq_getElem h1,List.getElem?_eq_getElem h2];rfl
section
variable(M:Md prog)(H:View)
theorem cV(x:Int):dA M 160 #[.int .i64 x] H (fun v H'=> H.le H'/\v=.bool false):=by
 refine .en func160 ntmps160 fun St c cs hK=> ?_;refine fF ?_;refine .rt hK func160 results160 [_] ?_;exact okB
theorem M5(a b:Int):dA M 109 #[.int .i64 a,.int .i64 b] H (fun v H'=> H.le H'/\v=.int .i64 (TL a b)):=by
 refine .en func109 ntmps109 fun St c cs hK=> ?_;refine U7 ?_;refine .cl (fun H hs=> cV M H a) ?_;refine U5 ?_;refine .cl (fun H hs=> cV M H b) ?_;refine mN ?_;by_cases c1:a<b
 ·have e:TL a b= -1:=if_pos c1;refine fH ?_;refine .rt hK func109 results109 [_] ?_;exact fun H' hs=> ⟨hs.base,by rw[e];rfl⟩
 ·by_cases c2:b<a
  ·have e:TL a b=1:=by unfold TL;rw[if_neg c1,if_pos c2]
   refine wS ?_;refine .rt hK func109 results109 [_] ?_;exact fun H' hs=> ⟨hs.base,by rw[e];rfl⟩
  ·have e:TL a b=0:=by unfold TL;rw[if_neg c1,if_neg c2]
   refine U20 ?_;refine .rt hK func109 results109 [_] ?_;exact fun H' hs=> ⟨hs.base,by rw[e];rfl⟩
theorem tV(A B:Option Addr)(l m:List Int)(n k ca cb:Nat)(hn:n=l.length)(hk:k=m.length)(h6:n<=1000)(hk6:k<=1000)(hA:UC H A l)(hB:UC H B m):dA M 69 #[.slice A n ca,.slice B k cb] H (fun v H'=> H.le H'/\v=.int .i64 (cmpL l m)):=by
 refine .en func69 ntmps69 fun St c cs hK=> ?_;refine xK ?_;refine Tc.db (Tc.IA (σ:= { j:Nat//j<=n/\j<=k/\cmpL (l.drop j) (m.drop j)=cmpL l m }) (fun j=> ([(0,.slice A n ca),(1,.slice B k cb),(4,.int .i64 0),(9,.slice A n ca),(10,.int .i64 (n:Nat)),(11,.int .i64 (j.1:Nat))],[])) (fun j=> n-j.1) ?_ ⟨0,oM,oM,rfl⟩);rintro⟨j,hj,hjk,hcm⟩ ih;show Tc M St _ _ _ _ [(0,.slice A n ca),(1,.slice B k cb),(4,.int .i64 0),(9,.slice A n ca),(10,.int .i64 (n:Nat)),(11,.int .i64 (j:Nat))] [] _ _;by_cases c1:j=n
 ·subst c1;rw[List.drop_eq_nil_of_le oM] at hcm;by_cases c2:j<k
  ·have e:cmpL l m= -1:=by
    rw[<-hcm,List.drop_eq_getElem_cons oM];rfl
   refine B5 ?_;refine .rt hK func69 results69 [_] ?_;exact fun H' hs=> ⟨hs.base,by rw[e];rfl⟩
  ·have e:cmpL l m=0:=by
    rw[<-hcm,List.drop_eq_nil_of_le oM];rfl
   refine U22 ?_;refine .rt hK func69 results69 [_] ?_;exact fun H' hs=> ⟨hs.base,by rw[e];rfl⟩
 ·have c2:j<n:=by omega
  rcases hA with hA|⟨a1,a2,a3,a4,a5,a6,rfl,a7,a8⟩
  ·rw[hA] at hn;simp at hn;omega
  have f1:=a8 j oM;by_cases c3:j=k
  ·have e:cmpL l m=1:=by
    have em:m.drop j= []:=List.drop_eq_nil_of_le oM;rw[<-hcm,em,List.drop_eq_getElem_cons oM];rfl
   refine U30 ?_;refine .rt hK func69 results69 [_] ?_;exact fun H' hs=> ⟨hs.base,by rw[e];rfl⟩
  ·have c4:j<k:=by omega
   rcases hB with hB|⟨b1,b2,b3,b4,b5,b6,rfl,b7,b8⟩
   ·rw[hB] at hk;simp at hk;omega
   have f2:=b8 j oM;have bB:=HV (l:=l) (m:=m) (j:=j) oM oM;rw[hcm] at bB;by_cases c5:TL (l[j]?.getD 0) (m[j]?.getD 0)=0
   ·rw[if_pos c5] at bB;refine U39 ?_;refine .cl (fun H hs=> dA.is (.int .i64 0) (by rewrite [c5];rfl) (M5 M H (l[j]?.getD 0) (m[j]?.getD 0))) ?_;refine yI ?_;exact Tc.db (ih ⟨j+1,oM,oM,bB.symm⟩ (by simp only;omega))
   ·rw[if_neg c5] at bB;refine U39 ?_;refine .cl (fun H hs=> M5 M H (l[j]?.getD 0) (m[j]?.getD 0)) ?_;refine yK ?_;refine .rt hK func69 results69 [_] ?_;exact fun H' hs=> ⟨hs.base,by rw[bB];rfl⟩
end
theorem Z6(H:View)(ch:Ch)(lb lo lc ac:Nat)(A:Option Addr)(hA:kG H ch lb lo lc A)(hg:ch.Good)(hG:nC H):
  dA (Mp prog) 25 #[ch.ZI lb lo lc,.slice A ch.m ac] H (fun v H'=> H.le H'/\v=.tuple ⟨[.int .i64 (ch.sec:Nat),.int .i64 ((ch.bad ch.sec).getD 0),.bool ch.first.isSome,.int .i64 0]⟩):=by
 refine .en func25 ntmps25 fun St c cs hK=> ?_;refine U2 ?_;refine .bo fun b2=> ?_;refine U9 ?_;refine .cl (fun H hs=> uM _ H ch lb lo lc ac A (hA.le hs.base) hg (zA hG hs.base)) ?_;refine U3 ?_;refine .al fun b8=> ?_;refine yI ?_;refine .cl (fun H hs=> gH H ch lb lo lc ac A (hA.le hs.base) hg (zA hG hs.base)) ?_;refine mN ?_;refine .rt hK func25 results25 [_,_,_,_] ?_;exact okB
def nN(mask i:Nat):Bool:=mask/2 ^ i%2==1
def zB(mask k:Nat):List Nat:=(List.range k).filter (nN mask)
def Ch.on(c:Ch)(l:List Nat):Ch:= { c with m:=l.length,at_:=fun i=> l[i]?.getD 0 }
def tH(l:List Nat):List Int:=l.map fun i:Nat=> (i:Int)
def LJ(l:List Nat)(best:Option (List Nat)):Bool:=match best with
 | none=> false
 | some b=> decide (b.length<l.length)||(decide (l.length=b.length)&&decide (0<cmpL (tH l) (tH b)))
def Ch.oE(c:Ch)(best:Option (List Nat))(mask:Nat):Option (List Nat):=
 if LJ (zB mask (c.n-1)) best then best else if(c.on (zB mask (c.n-1))).first.isSome then best else some (zB mask (c.n-1))
def Ch.aC(c:Ch):Nat->Option (List Nat)
 | 0=> none
 | k+1=> c.oE (c.aC k) k
def Ch.L6(c:Ch):Option (List Nat):=c.aC (2 ^ (c.n-1))
theorem oX {mask k i:Nat}(h:i<(zB mask k).length):(zB mask k)[i]?.getD 0<k:=by
 rw[List.getElem?_eq_getElem h];have:=List.getElem_mem h;unfold zB at this;exact List.mem_range.1 (List.mem_filter.1 this).1
theorem EV {mask k i:Nat}(h:i+1<(zB mask k).length):(zB mask k)[i]?.getD 0<(zB mask k)[i+1]?.getD 0:=by
 rw[List.getElem?_eq_getElem h,List.getElem?_eq_getElem (show i<(zB mask k).length by omega)];have hp:(zB mask k).Pairwise (· < ·):=List.Pairwise.filter _ List.pairwise_lt_range;exact List.pairwise_iff_getElem.1 hp i (i+1) oM h oM
theorem Ch.Good.on {c:Ch}(h:c.Good)(mask:Nat):(c.on (zB mask (c.n-1))).Good:=by
 refine⟨⟨h.ok.n0,h.ok.n4,h.ok.x,h.ok.y,h.ok.z,h.ok.u,fun i hi=> ?_,fun i hi=> EV hi⟩,h.s,h.a,h.r,h.ln⟩;have:=oX (mask:=mask) (k:=c.n-1) hi;have h0:=h.ok.n0;show(zB mask (c.n-1))[i]?.getD 0+1<c.n;omega
theorem cW(mask k:Nat):WA (nN mask) k=EB (zB mask k):=rfl
theorem nE(l:List Nat):EB l=kA (tH l):=by
 unfold EB kA tH;rw[List.map_map];rfl
theorem T3:∀mask:Nat,mask<8->∀i:Nat,i<3->((mask:Int)).fdiv (2 ^ (min (i:Int).toNat IntKind.i64.bits))=((mask/2 ^ i:Nat):Int)/\DD .and .i64 ((mask/2 ^ i:Nat):Int) 1=((mask/2 ^ i%2:Nat):Int):=by decide +kernel
def T6(o:Option (List Nat))(H:View)(v:Value)(H':View):Prop:=H.le H'/\∃g:Gl 3 1,v=.tuple ⟨[g.val,.bool o.isSome,.int .i64 0]⟩/\g.l=EB (o.getD [])/\∀y∈g.bl,H' y.1=some y.2/\H y.1=none
theorem ZT(M:Md prog)(H:View)(mask k b7:Nat)(hm:mask<8)(hk:k<=3)(hb:H b7=some (true,.cells ⟨[.int .i64 (mask:Nat)]⟩ 3 (0,0))):gN M H (.func (.func 68) #[] #[.pointer (some ⟨b7,0,none⟩)]) k (nN mask):=fun i hi H' hle=> by
 refine TC.of (first:= []) (captured:= [_]) aCv rfl ?_;have h7:=hle _ _ hb;obtain⟨e1,e2⟩:=T3 mask hm i oM;have g1:qC .shr .i64 (mask:Int) (i:Int)=some (.int .i64 ((mask/2 ^ i:Nat):Int)):=congrArg (fun x=> some (Value.int .i64 x)) e1;have g2:iA .and .i64 ((mask/2 ^ i:Nat):Int) 1=some (.int .i64 ((mask/2 ^ i%2:Nat):Int)):=congrArg (fun x=> some (Value.int .i64 x)) e2;refine .en func68 ntmps68 fun St c cs hK=> ?_;refine U ?_;by_cases h:mask/2 ^ i%2=1
 ·have hb:nN mask i=true:=by unfold nN;rw[h];rfl
  refine U7 ?_;refine .x .sf ?_;refine U4 ?_;refine .rt hK func68 results68 [_] ?_;exact fun H2 hs=> ⟨hs.base,by rw[hb];rfl⟩
 ·have hb:nN mask i=false:=by unfold nN;exact beq_false_of_ne h
  refine U7 ?_;refine .x .sf ?_;refine U4 ?_;refine .rt hK func68 results68 [_] ?_;exact fun H2 hs=> ⟨hs.base,by rw[hb];rfl⟩
end Go.Proofs.YtgkmnalhddmclaaGreatDoor
namespace Go.Proofs.YtgkmnalhddmclaaGreatDoor
open Go.RL Go.Proofs.Tryz
set_option maxRecDepth 10000
theorem NK(pace after:Int):∀(f:Nat) (n j:Int),n<=j->j<JB pace after f n->(2*j+1)*pace<after
 | 0,n,j,h1,h2=> by simp[JB] at h2;omega
 | f + 1,n,j,h1,h2=> by
  unfold JB at h2;split at h2
  ·rename_i iB
   by_cases e:j=n
   ·subst e;exact iB
   ·exact NK pace after f (n+1) j oM h2
  ·omega
theorem QI {pace after j:Int}(h0:0<=j)(h:j<YA pace after):(2*j+1)*pace<after:=NK pace after 7 0 j h0 h
theorem pR {pace after:Int}(hp:0<pace){m:Int}(h0:0<=m)(h7:m<7):m<YA pace after<->(2*m+1)*pace<after:=by
 constructor
 ·exact QI h0
 ·intro h;obtain⟨h1,h2,h3⟩:=pC pace after;by_cases e:m<YA pace after
  ·exact e
  ·have h4:=h3 oM;have h5:(2*YA pace after+1)*pace<=(2*m+1)*pace:=Int.mul_le_mul_of_nonneg_right oM oM;omega
theorem FP {pace a b:Int}(hp:0<pace)(h:a<=b):YA pace a<=YA pace b:=by
 obtain⟨h1,h2,_⟩:=pC pace a;obtain⟨g1,g2,_⟩:=pC pace b;by_cases e:YA pace a<=YA pace b
 ·exact e
 ·have h4:=QI (pace:=pace) (after:=a) g1 oM;have:=(pR (after:=b) hp g1 oM).2 oM;omega
theorem iO {read mt after:Int}(hr:0<read):∀(f:Nat) (n m:Int),n<=m->m<=mt->(mt+1-n).toNat<=f->∃o∈EE read mt after f n,o.1=YA read (after+m)/\n<=o.2/\o.2<=m
 | 0,n,m,h1,h2,h3=> by omega
 | f + 1,n,m,h1,h2,h3=> by
  unfold EE;rw[if_pos oM];by_cases e:YA read (after+m)=YA read (after+n)
  ·exact⟨_,List.mem_cons_self,e.symm,Int.le_refl _,h1⟩
  ·have h4:=FP (pace:=read) hr (show after+n<=after+m by omega);have h5:=pC read (after+n);have h6:=pC read (after+m);rw[if_neg oM];have h7:=h5.2.2 oM;have h8:=QI (pace:=read) (after:=after+m) h5.1 oM;obtain⟨o,ho,h9,Y5,h11⟩:=iO (after:=after) hr f ((2*YA read (after+n)+1)*read+1-after) m oM h2 oM;exact⟨o,List.mem_cons_of_mem _ ho,h9,oM,h11⟩
theorem zR {read mt after:Int}:∀(f:Nat) (n:Int) (o:Int×Int),o∈EE read mt after f n->n<=o.2/\o.2<=mt/\o.1=YA read (after+o.2)
 | 0,n,o,h=> by cases h
 | f + 1,n,o,h=> by
  unfold EE at h;split at h
  ·rename_i hn
   rcases List.mem_cons.1 h with rfl|h
   ·exact⟨Int.le_refl _,hn,rfl⟩
   ·split at h
    ·cases h
    ·rename_i h7
     have h5:=pC read (after+n);obtain⟨h1,h2,h3⟩:=zR f _ o h;have:=h5.2.2 h7;exact⟨oM,h2,h3⟩
  ·cases h
def VA.EP(s:VA)(i:Nat)(m:Int):Int:=if i=0 then 0 else YA s.read (s.after (s.ps[i]?.getD 0) i+m)
def VA.may(s:VA)(i:Nat)(m:Int):Prop:=if i=0 then m=s.first else s.mf<=m/\m<=s.mt
theorem VA.AR {s:VA}(hr:0<s.read){i:Nat}{m:Int}(h:s.may i m):∃o∈s.opts (s.ps[i]?.getD 0) i,o.1=s.EP i m/\o.2<=m:=by
 unfold VA.may at h;unfold VA.opts VA.EP;split at h
 ·rename_i hi
  subst hi;rw[if_pos rfl,if_pos rfl];exact⟨_,List.mem_cons_self,rfl,oM⟩
 ·rename_i hi
  rw[if_neg hi,if_neg hi];obtain⟨o,h1,h2,h3,h4⟩:=iO (read:=s.read) (mt:=s.mt) (after:=s.after (s.ps[i]?.getD 0) i) hr (s.mt+1-s.mf).toNat s.mf m h.1 h.2 (Nat.le_refl _);exact⟨o,h1,h2,h4⟩
theorem VA.iV {s:VA}{i:Nat}{o:Int×Int}(h:o∈s.opts (s.ps[i]?.getD 0) i):s.may i o.2/\o.1=s.EP i o.2:=by
 unfold VA.opts at h;unfold VA.may VA.EP;split at h
 ·rename_i hi
  simp only[List.mem_singleton] at h;subst h;subst hi;exact⟨by simp,by simp⟩
 ·rename_i hi
  obtain⟨h1,h2,h3⟩:=zR _ _ _ h;rw[if_neg hi,if_neg hi];exact⟨⟨h1,h2⟩,h3⟩
def VA.qE(s:VA)(i v:Nat):List Int->Nat
 | []=> v
 | m::l=> s.qE (i+1) (pB v (s.EP i m).toNat) l
def VA.GF(s:VA)(i:Nat):List Int->Prop
 | []=> True
 | m::l=> s.may i m/\s.GF (i+1) l
def VA.view(s:VA)(mv:List Int):Nat:=s.qE 0 127 mv
theorem VA.lM {s:VA}(hr:0<s.read):∀(l:List Int) (i v:Nat) (pre:List Int),s.GF i l->∃x∈s.leaves l.length i v pre,x.1=s.qE i v l
 | [],i,v,pre,_=> ⟨(v,pre),by simp[VA.leaves],rfl⟩
 | m ::l,i,v,pre,h=> by
  obtain⟨o,h1,h2,_⟩:=VA.AR hr h.1;obtain⟨x,h3,h4⟩:=VA.lM hr l (i+1) (pB v o.1.toNat) (pre++[o.2]) h.2;refine⟨x,?_,?_⟩
  ·simp only[List.length_cons,VA.leaves];exact List.mem_flatMap.2 ⟨o,h1,h3⟩
  ·rw[h4,h2];rfl
theorem VA.bO {s:VA}:∀(d i v:Nat) (pre:List Int) (x:Nat×List Int),x∈s.leaves d i v pre->∃l:List Int,l.length=d/\x.2=pre++l/\s.GF i l/\x.1=s.qE i v l
 | 0,i,v,pre,x,h=> by
  simp only[VA.leaves,List.mem_singleton] at h;subst h;exact⟨[],rfl,by simp,trivial,rfl⟩
 | d+1,i,v,pre,x,h=> by
  unfold VA.leaves at h;obtain⟨o,h1,h2⟩:=List.mem_flatMap.1 h;obtain⟨h3,h4⟩:=VA.iV h1;obtain⟨l,h5,h6,h7,h8⟩:=VA.bO d (i+1) _ _ x h2;refine⟨o.2::l,by simp[h5],by rw[h6];simp,⟨h3,h7⟩,?_⟩;rw[h8,h4];rfl
theorem VA.S0 {s:VA}(hr:0<s.read){v:Nat}:(∃x∈s.all,x.1=v)<->∃mv:List Int,mv.length=s.ps.length/\s.GF 0 mv/\s.view mv=v:=by
 constructor
 ·rintro⟨x,hx,rfl⟩;obtain⟨l,h1,h2,h3,h4⟩:=VA.bO _ _ _ _ _ hx;exact⟨l,h1,h3,h4.symm⟩
 ·rintro⟨mv,h1,h2,rfl⟩;obtain⟨x,h3,h4⟩:=VA.lM hr mv 0 127 [] h2;exact⟨x,by unfold VA.all;rw[<-h1];exact h3,h4⟩
theorem NY {os:List (Int×Int)}{R:Nat->Bool}{w:Nat}:aH os R 128 0 w=true<->∃u,u<128/\R u=true/\∃o∈os,toV u o=w:=by
 unfold aH;simp only[List.take_zero,List.any_nil,Bool.false_and,Bool.or_false,List.any_eq_true,List.mem_range,Bool.and_eq_true,beq_iff_eq];constructor
 ·rintro⟨u,h1,⟨o,h2,h3⟩,h4⟩;exact⟨u,h1,h4,o,h2,h3⟩
 ·rintro⟨u,h1,h4,o,h2,h3⟩;exact⟨u,h1,⟨o,h2,h3⟩,h4⟩
theorem VA.LF(s:VA):∀(l:List Int) (i v:Nat) (m:Int),s.qE i v (l++[m])=pB (s.qE i v l) (s.EP (i+l.length) m).toNat
 | [],i,v,m=> rfl
 | a::l,i,v,m=> by
  show s.qE (i+1) _ (l++[m])=_;rw[VA.LF s l];simp only[List.length_cons];rw[show i+1+l.length=i+(l.length+1) by omega];rfl
theorem VA.qH(s:VA):∀(l:List Int) (i:Nat) (m:Int),s.GF i (l++[m])<->s.GF i l/\s.may (i+l.length) m
 | [],i,m=> by simp[VA.GF]
 | a::l,i,m=> by
  simp only[List.cons_append,VA.GF,List.length_cons];rw[VA.qH s l,show i+1+l.length=i+(l.length+1) by omega,and_assoc]
theorem VA.W3 {s:VA}(i:Nat)(m:Int):0<=s.EP i m/\s.EP i m<=7:=by
 unfold VA.EP;split
 ·omega
 ·have:=pC s.read (s.after (s.ps[i]?.getD 0) i+m);omega
theorem VA.VK(s:VA):∀(l:List Int) (i v:Nat),v<128->s.qE i v l<128
 | [],_,_,h=> h
 | m::l,i,v,h=> by
  have:=VA.W3 (s:=s) i m;exact VA.VK s l (i+1) _ (aI v h _ oM)
theorem VA.yH {s:VA}(hr:0<s.read):∀(k:Nat) (w:Nat),s.oA k w=true<->∃mv:List Int,mv.length=k/\s.GF 0 mv/\s.view mv=w
 | 0,w=> by
  constructor
  ·intro h;simp only[VA.oA,beq_iff_eq] at h;exact⟨[],rfl,trivial,h.symm⟩
  ·rintro⟨mv,h1,_,h3⟩;cases List.eq_nil_of_length_eq_zero h1
   simp only[VA.oA,beq_iff_eq];exact h3.symm
 | k + 1,w=> by
  unfold VA.oA;rw[NY];constructor
  ·rintro⟨u,h1,h2,o,h3,h4⟩;obtain⟨mv,h5,h6,h7⟩:=(VA.yH hr k u).1 h2;obtain⟨h8,h9⟩:=VA.iV h3;refine⟨mv++[o.2],by simp[h5],(VA.qH s mv 0 o.2).2 ⟨h6,by rw[Nat.zero_add,h5];exact h8⟩,?_⟩;unfold VA.view at h7 ⊢;rw[VA.LF,h7,Nat.zero_add,h5,<-h9];exact h4
  ·rintro⟨mv,h1,h2,h3⟩;obtain⟨mv',m,rfl⟩:∃mv' m,mv=mv'++[m]:=by
    refine⟨mv.dropLast,mv.getLast (by intro e;rw[e] at h1;cases h1),?_⟩;exact(List.dropLast_concat_getLast _).symm
   simp only[List.length_append,List.length_cons,List.length_nil,Nat.zero_add,Nat.add_right_cancel_iff] at h1;obtain⟨h4,h5⟩:=(VA.qH s mv' 0 m).1 h2;rw[Nat.zero_add,h1] at h5;obtain⟨o,h6,h7,_⟩:=VA.AR hr h5;refine⟨s.view mv',VA.VK s mv' 0 127 dE,(VA.yH hr k _).2 ⟨mv',h1,h4,rfl⟩,o,h6,?_⟩;unfold VA.view at h3;rw[VA.LF,Nat.zero_add,h1,<-h7] at h3;exact h3
theorem VA.sW {s:VA}(hr:0<s.read){w:Nat}:s.reach w=true<->∃mv:List Int,mv.length=s.ps.length/\s.GF 0 mv/\s.view mv=w:=VA.yH hr _ _
theorem VA.qO {s:VA}(hr:0<s.read){w:Nat}:s.reach w=true<->∃x∈s.all,x.1=w:=(VA.sW hr).trans (VA.S0 hr).symm
set_option maxRecDepth 100000
def FX:Lk:=⟨20,20,19,21,0,0, -3,3⟩
def dJ:Lk:=⟨20,20,19,21,0,1, -3,3⟩
def exM:Lk:=⟨19,21,19,21,0,0, -3,3⟩
def DX:Ch:=⟨20,20,20,20,19,21,3,fun _=> 0,fun _=> 0,fun _=> -2,fun _=> 2,0,fun _=> 0⟩
theorem OS:FX.ok=true:=by decide +kernel
theorem YO:dJ.ok=true:=by decide +kernel
theorem w7:exM.ok=true:=by decide +kernel
theorem GX:bA 16 7= [0,5]:=by decide +kernel
theorem OV:bA 0 7= [0,6]:=by decide +kernel
def Lk.views(k:Lk)(c:Nat):List Nat:=((k.DN c).flatMap fun s=> s.all).map fun x=> x.1
theorem Lk.XI {k:Lk}(hk:1<=k.r0){c v:Nat}:k.iF c v=true<->v∈k.views c:=by
 have hr:∀s∈k.DN c,0<s.read:=fun s hs=> by
  obtain⟨a,r,n,f,h1,h2,h3,h4,rfl⟩:=Lk.pM.1 hs;show 0<r;omega
 unfold Lk.iF Lk.views;rw[List.any_eq_true,List.mem_map];constructor
 ·rintro⟨s,hs,hv⟩;obtain⟨x,hx,e⟩:=(VA.qO (hr s hs)).1 hv;exact⟨x,List.mem_flatMap.2 ⟨s,hs,hx⟩,e⟩
 ·rintro⟨x,hx,e⟩;obtain⟨s,hs,hx⟩:=List.mem_flatMap.1 hx;exact⟨s,hs,(VA.qO (hr s hs)).2 ⟨x,hx,e⟩⟩
theorem bM:((dJ.views 0).any (fun v=> v==64)&&(dJ.views 0).any (fun v=> decide (v<128)&&(xD v).isNone)&&(dJ.views 0).all (fun v=> v==64||(xD v).isNone))=true:=by decide +kernel
theorem KX:dJ.iF 0 64=true:=by
 have h:=bM;simp only[Bool.and_eq_true,List.any_eq_true] at h;obtain⟨⟨⟨v,hv,e⟩,_⟩,_⟩:=h;rw[beq_iff_eq] at e;subst e;exact(Lk.XI dE).2 hv
theorem X5:∃v,v<128/\dJ.iF 0 v=true/\(xD v).isNone=true:=by
 have h:=bM;simp only[Bool.and_eq_true,List.any_eq_true,decide_eq_true_eq] at h;obtain⟨⟨_,v,hv,e1,e2⟩,_⟩:=h;exact⟨v,e1,(Lk.XI dE).2 hv,e2⟩
theorem aAZ {v:Nat}(hv:dJ.iF 0 v=true):v=64\/(xD v).isNone=true:=by
 have h:=bM;simp only[Bool.and_eq_true,List.all_eq_true,Bool.or_eq_true,beq_iff_eq] at h;exact h.2 v ((Lk.XI dE).1 hv)
theorem IX:dJ.rJ 0=0:=by
 have hr:xB 0=64:=by decide +kernel
 obtain⟨w,h1,h2,h3⟩:=X5;have aB:¬dJ.seen 0=1:=by
  intro e;unfold Lk.seen at e;obtain⟨a,ha⟩:=List.length_eq_one_iff.1 e;have m1:64∈(List.range 128).filter (dJ.iF 0):=List.mem_filter.2 ⟨List.mem_range.2 dE,KX⟩;have m2:w∈(List.range 128).filter (dJ.iF 0):=List.mem_filter.2 ⟨List.mem_range.2 h1,h2⟩;rw[ha,List.mem_singleton] at m1 m2;rw[m2,<-m1] at h3;exact absurd h3 dE
 unfold Lk.rJ;rw[hr,KX,if_pos rfl,if_neg aB]
theorem aM:(List.range 32).filter (dJ.yC 0)= [0]:=by
 have h:∀n,n<32->dJ.yC 0 n=decide (n=0):=by
  intro n hn;unfold Lk.yC;by_cases e:n=0
  ·subst e;exact KX
  ·rw[decide_eq_false e];cases hs:dJ.iF 0 (64+2*n) with
   | false=> rfl
   | true=>
    rcases aAZ hs with h1|h1
    ·omega
    ·rw[(aG (64+2*n) oM n hn).2 rfl] at h1;cases h1
 rw[List.filter_congr fun n hn=> h n (List.mem_range.1 hn)];decide
theorem PS:dJ.refused 0=0:=by
 obtain⟨w,h1,h2,h3⟩:=X5;have hb:dJ.bad 0=true:=by
  unfold Lk.bad;rw[List.any_eq_true];exact⟨w,List.mem_range.2 h1,by rw[h2,h3];rfl⟩
 have hk:(WA (dJ.yC 0) 32).length=1:=by
  unfold WA;rw[aM];rfl
 unfold Lk.refused;rw[hb,hk];rfl
theorem LX:dJ.CC 0=some (20,19,1,[-3,3]):=by decide +kernel
theorem BU:((List.range 32).filter dJ.FG).length=16/\((List.range 32).filter dJ.FG)[0]? =some 16:=by decide +kernel
theorem T1:exM.iL (bA 0 7) (DC [0,243])=some (20,20):=by decide +kernel
theorem S1:(List.range 32).filter (FX.xE [0,243])= [0]:=by decide +kernel
theorem PV:FX.fK=3:=by decide +kernel
theorem HX:(List.range 41).filter FX.TG= [19,20,21]:=by decide +kernel
theorem ZO:DX.first=some 0/\DX.bad 0=some 0:=by decide +kernel
theorem JX:DX.L6=some [1]:=by decide +kernel
set_option maxRecDepth 10000
set_option maxHeartbeats 4000000
section
variable(M:Md prog)(H:View)
theorem uK(A B:Option Addr)(l:List Int)(n ca cb:Nat)(hn:n=l.length)(h6:n<=1000)(hA:UC H A l)(hB:UC H B l):dA M 70 #[.slice A n ca,.slice B n cb] H (fun v H'=> H.le H'/\v=.bool false):=by
 refine .en func70 ntmps70 fun St c cs hK=> ?_;refine fH ?_;refine Tc.db (Tc.IA (σ:= { j:Nat//j<=n }) (fun j=> ([(0,.slice A n ca),(1,.slice B n cb),(4,.bool false),(5,.int .i64 (j.1:Nat))],[])) (fun j=> n-j.1) ?_ ⟨0,oM⟩);rintro⟨j,hj⟩ ih;show Tc M St _ _ _ _ [(0,.slice A n ca),(1,.slice B n cb),(4,.bool false),(5,.int .i64 (j:Nat))] [] _ _;by_cases c1:j=n
 ·subst c1;refine U25 ?_;refine .rt hK func70 results70 [_] ?_;exact okB
 ·have c2:j<n:=by omega
  rcases hA with hA|⟨a1,a2,a3,a4,a5,a6,rfl,a7,a8⟩
  ·rw[hA] at hn;simp at hn;omega
  rcases hB with hB|⟨b1,b2,b3,b4,b5,b6,rfl,b7,b8⟩
  ·rw[hB] at hn;simp at hn;omega
  have f1:=a8 j oM;have f2:=b8 j oM;refine wS ?_;refine Tc.dr [] [] mixed rfl ?_;refine V9 0 ?_;refine .dn ?_;refine U8 ?_;exact Tc.db (ih ⟨j+1,oM⟩ (by simp only;omega))
theorem mI(A B:Option Addr)(l:List Int)(n ca cb:Nat)(hn:n=l.length)(h6:n<=1000)(hA:UC H A l)(hB:UC H B l):dA M 29 #[.slice A n ca,.slice B n cb] H (fun v H'=> H.le H'/\v=.bool true):=by
 refine .en func29 ntmps29 fun St c cs hK=> ?_;refine U8 ?_;refine .cl (fun H hs=> uK M H A B l n ca cb hn h6 (hA.le hs.base) (hB.le hs.base)) ?_;refine U4 ?_;refine .cl (fun H hs=> uK M H B A l n cb ca hn h6 (hB.le hs.base) (hA.le hs.base)) ?_;refine U4 ?_;refine .rt hK func29 results29 [_] ?_;exact okB
theorem KL(s r e:Int)(A B:Option Addr)(l:List Int)(n ca cb:Nat)(hn:n=l.length)(h6:n<=1000)(hA:UC H A l)(hB:UC H B l):
  dA M 28 #[.agg ⟨[.int .i64 s,.int .i64 r,.int .i64 e,.slice A n ca]⟩,.agg ⟨[.int .i64 s,.int .i64 r,.int .i64 e,.slice B n cb]⟩] H (fun v H'=> H.le H'/\v=.bool true):=by
 refine .en func28 ntmps28 fun St c cs hK=> ?_;refine U2 ?_;refine .bo fun b2=> ?_;refine .bo fun b3=> ?_;refine U28 ?_;refine .cl (fun H hs=> mI M H A B l n ca cb hn h6 (hA.le hs.base) (hB.le hs.base)) ?_;refine U3 ?_;refine .rt hK func28 results28 [_] ?_;exact okB
end
end Go.Proofs.YtgkmnalhddmclaaGreatDoor
