/-
 Texts of the proofs over baudot/dial.
-/
import Derived.Test.YtldmfjcgjdchcaaGreatDoorL10
namespace Go.Proofs.YtldmfjcgjdchcaaGreatDoor.Sg
open Go.RL Go.Proofs.Tryz
set_option maxRecDepth 10000
set_option maxHeartbeats 4000000
def TA.leaves(s:TA):Nat->Nat->Nat->List Int->List (Nat×List Int)
 | 0,_,v,mv=> [(v,mv)]
 | d+1,i,v,mv=> (s.opts (s.ps[i]?.getD 0) i).flatMap fun o=> s.leaves d (i+1) (yD v o.1.toNat) (mv++[o.2])
def TA.all(s:TA):List (Nat×List Int):=s.leaves s.ps.length 0 127 []
theorem cV {read mt after:Int}:∀ {f:Nat} {n:Int} {o:Int×Int},o∈KF read mt after f n->0<=o.1/\o.1<=7
 | 0,_,_,h=> by cases h
 | f + 1,n,o,h=> by
  unfold KF at h;split at h
  ·rcases List.mem_cons.1 h with rfl|h
   ·have:=nC read (after+n);exact⟨this.1,this.2.1⟩
   ·split at h
    ·cases h
    ·exact cV h
  ·cases h
theorem TA.JY {s:TA}{p i:Nat}{o:Int×Int}(h:o∈s.opts p i):0<=o.1/\o.1<=7:=by
 unfold TA.opts at h;split at h
 ·simp at h;subst h;exact⟨by simp,by simp⟩
 ·exact cV h
theorem iR {read mt after:Int}:∀(f:Nat) (n:Int),(KF read mt after f n).length<=f
 | 0,_=> by simp[KF]
 | f + 1,n=> by
  unfold KF;split
  ·have:=iR (read:=read) (mt:=mt) (after:=after) f ((2*bB read (after+n)+1)*read+1-after);split <;> simp <;> omega
  ·simp
theorem TA.I6 {s:TA}(ZB:s.Ok)(p i:Nat):(s.opts p i).length<=3000:=by
 unfold TA.opts;split
 ·simp
 ·have h1:=iR (read:=s.read) (mt:=s.mt) (after:=s.after p i) (s.mt+1-s.mf).toNat s.mf;have h2:=ZB.mf;have h3:=ZB.mt;omega
theorem KM:∀v:Nat,v<128->∀f:Nat,f<8->yD v f<128:=by decide +kernel
def mP(n:Nat)(mv:List Int):List Value:=sA mv++List.replicate (7-n) (.int .i64 0)
theorem RS {l:List (Int×Int)}{j:Nat}{o:Int×Int}(h:l[j]? =some o):((yB l).drop (j*2)).take 2= [.int .i64 o.1,.int .i64 o.2]:=by
 induction l generalizing j with
 | nil=> simp at h
 | cons x l ih=>
  rw[bK];cases j with
  | zero=> simp at h;subst h;simp
  | succ j=>
   rw[show(j+1)*2=j*2+2 by omega,List.drop_append];simp only[List.length_cons,List.length_nil];rw[show j*2+2-(0+1+1)=j*2 by omega,List.drop_eq_nil_of_le (by simp)];exact ih (by simpa using h)
theorem aEU {H:View}{s:TA}{p i j:Nat}{v:Value}{o:Int×Int}(h:OA H 2 v (s.opts p i).length (yB (s.opts p i)))(hj:(s.opts p i)[j]? =some o):
  ∃b off c f cs e fz,v=.slice (some ⟨b,off,none⟩) (s.opts p i).length c/\H b=some (f,.cells ⟨cs⟩ e fz)/\gD true 2 cs (off+j*2)=some (.agg ⟨[.int .i64 o.1,.int .i64 o.2]⟩):=by
 have HB:=(List.getElem?_eq_some_iff.1 hj).1;obtain⟨_,h2,⟨_,c,_,h3⟩|⟨b,off,c,f,cs,e,fz,h3,h4,h5,h6⟩⟩:=h
 ·have:=PH (s.opts p i);rw[h3] at this;simp at this
  omega
 ·refine⟨b,off,c,f,cs,e,fz,h3,h4,?_⟩;have hl:=PH (s.opts p i);have hle:off+j*2+2<=cs.length:=by rw[hl] at h5;omega
  have:Nat.ble (off+j*2+2) cs.length=true:=Nat.ble_eq_true_of_le hle;unfold gD;simp only[this]
  congr 3
  have e1:=RS hj;rw[<-h6,hl,List.drop_take,List.drop_drop] at e1;rw[<-e1,List.take_take]
  congr 1
  omega
theorem aAp {s:TA}{p i mb:Nat}{Hj Hm H₁:View}{v:Value}{x:Bool×Obj}(hd:Dj Hj (Hm.put mb x))(h:VP s p i mb Hm (Hj.plus (Hm.put mb x)) v H₁):
  ∃Hm' es' cl',(Hj.plus (Hm'.put mb (true,.map es' cl'))).le H₁/\Dj Hj (Hm'.put mb (true,.map es' cl'))/\Hm.le Hm'/\Hm' mb=none/\OA Hm' 2 v (s.opts p i).length (yB (s.opts p i))/\MK Hm' s es'.toList:=by
 obtain⟨h1,Hm',es',cl',h2,h3,h4,h5,h6,h7,h8⟩:=h;have hjm:Hj mb=none:=hd mb x (View.LA ..);refine⟨Hm',es',cl',fun c y hc=> ?_,fun c y hc=> ?_,h4,h5,h6,h8⟩
 ·unfold View.plus at hc;split at hc
  ·rename_i z hz
   cases hc
   refine h1 c _ ?_ (NA hz);rintro rfl;rw[hjm] at hz;cases hz
  ·by_cases e:c=mb
   ·subst e;rw[View.LA] at hc;cases hc
    exact h7
   ·rw[View.vA _ _ e] at hc;exact h2 c y hc
 ·by_cases e:c=mb
  ·subst e;exact hjm
  ·rw[View.vA _ _ e] at hc;rcases h3 c y hc with h9|h9
   ·exact hd c y (by rw[View.vA _ _ e];exact h9)
   ·exact(sH h9).1
structure NSt where
 j:Nat
 Hj:View
 Hm:View
 es:Array MapEntry
 cl:Nat
 q:Nat
 z:List Value
section
variable(M:Md prog)(H:View)
def nxV(b2 b3 b4 b5:Nat):Value:=.func (.func 284) #[] #[.pointer (some ⟨b2,0,none⟩),.pointer (some ⟨b3,0,none⟩),.pointer (some ⟨b4,0,none⟩),.pointer (some ⟨b5,0,none⟩)]
def fR(s:TA)(l eb ec mb bm b2 b3 b4 b5 q:Nat)(c:List Value):Bl:=
 [(bm,true,.cells ⟨c⟩ 3 (0,0)),(b5,true,.cells ⟨[nxV b2 b3 b4 b5]⟩ 378 (0,0)),(b4,true,.cells ⟨[.slice (some ⟨bm,0,none⟩) q 7]⟩ 24 (0,0)),(b3,true,.cells ⟨[.func (.yield l) #[] #[]]⟩ 377 (0,0)),(b2,true,.cells ⟨(s.val eb ec mb).cells.toList⟩ 331 (0,0))]
theorem aCk(s:TA)(ZB:s.Ok)(l eb ec mb bm b2 b3 b4 b5:Nat)(J:List (Nat×List Int)->View->Prop)(D:View->Prop)(wB:∀rest H',J rest H'->nJ H' s eb)
  (hy:∀(x:Nat×List Int) rest (e:Nat) H' H'',x∈s.all->J (x::rest) H'->gA H' [(e,true,.cells ⟨mP s.ps.length x.2⟩ 3 (0,0))] H''->uB M (.func (.yield l) #[] #[]) [.int .u8 x.1,.slice (some ⟨e,0,none⟩) s.ps.length 7] H'' fun v H3=> (v=.bool true/\∃H₂,gA H₂ [(e,true,.cells ⟨mP s.ps.length x.2⟩ 3 (0,0))] H3/\J rest H₂)\/(v=.bool false/\D H3)):
  ∀ (d i v:Nat) (mv:List Int) (rest:List (Nat×List Int)),i+d=s.ps.length->mv.length=i->v<128->(∀y∈s.leaves d i v mv,y∈s.all)->∀(Hj Hm:View) (es:Array MapEntry) (cl:Nat) (z:List Value) (H:View),
   gA (Hj.plus (Hm.put mb (true,.map es cl))) (fR s l eb ec mb bm b2 b3 b4 b5 i z) H->Dj Hj (Hm.put mb (true,.map es cl))->Hm mb=none->MK Hm s es.toList->z.length=7->z.take i=sA mv->z.drop s.ps.length=List.replicate (7-s.ps.length) (.int .i64 0)->J (s.leaves d i v mv++rest) Hj-> 
   bA M 284 #[.int .i64 i,.int .u8 v,.pointer (some ⟨b2,0,none⟩),.pointer (some ⟨b3,0,none⟩),.pointer (some ⟨b4,0,none⟩),.pointer (some ⟨b5,0,none⟩)] H fun r H''=>
    (r=.bool true/\∃Hj' Hm' es' cl' q' c',q'<=7/\Hm.le Hm'/\gA (Hj'.plus (Hm'.put mb (true,.map es' cl'))) (fR s l eb ec mb bm b2 b3 b4 b5 q' c') H''/\Dj Hj' (Hm'.put mb (true,.map es' cl'))/\Hm' mb=none/\MK Hm' s es'.toList/\c'.length=7/\c'.take i=sA mv/\c'.drop s.ps.length=List.replicate (7-s.ps.length) (.int .i64 0)/\J rest Hj')\/ 
    (r=.bool false/\∃H₁,H₁.le H''/\D H₁):=by
 intro d;induction d with
 | zero=>
  intro i v mv rest hid hmv hv zG Hj Hm es cl z H hs zT AT hm hc7 hci hcn hJ;have FK:i=s.ps.length:=by omega
  have h6:=ZB.ps6;have hcp:z=mP s.ps.length mv:=by
   rw[<-List.take_append_drop s.ps.length z,hcn,<-FK,hci];rfl
  refine bA.enter (vs:= [.int .i64 i,.int .u8 v,.pointer (some ⟨b2,0,none⟩),.pointer (some ⟨b3,0,none⟩),.pointer (some ⟨b4,0,none⟩),.pointer (some ⟨b5,0,none⟩)]) func284 rfl ntmps284 (Nat.le_of_ble_eq_true rfl) (hs) fun St c cs hK=> ?_;refine MR ?_;refine To.OY 0 rfl (fun j5=> ?_);obtain⟨hf1,hf2⟩:=sH j5;rw[<-tH];have hd2:Dj (Hj.put bm (true,.cells ⟨z⟩ 3 (0,0))) (Hm.put mb (true,.map es cl)):=zT.put hf2;have OO:gA Hj [(bm,true,.cells ⟨mP s.ps.length mv⟩ 3 (0,0))] (Hj.put bm (true,.cells ⟨z⟩ 3 (0,0))):=by
   rw[hcp];exact(gA.nil Hj).cons _ hf1
  have hy':=(hy (v,mv) rest bm Hj _ (zG _ (by simp[TA.leaves])) hJ OO).frame hd2;rw[<-FK] at hy';refine To.vB rfl rfl rfl rfl rfl rfl dE (hy') (fun r H3 hv=> ?_);obtain⟨H4,rfl,hd4,⟨rfl,H2,aX,hJ2⟩|⟨rfl,hD⟩⟩:=hv
  ·have hle:(H2.put bm (true,.cells ⟨z⟩ 3 (0,0))).le H4:=fun b x hb=> by
    by_cases e:b=bm
    ·subst e;rw[View.LA] at hb;cases hb
     rw[hcp,<-FK];exact aX.get (i:=0) rfl
    ·rw[View.vA _ _ e] at hb;exact aX.base b x hb
   have xU:H2 bm=none:=aX.fresh (i:=0) rfl;refine To.lower (aAr hle hd4) ?_;rw[tH];refine To.pop (by rw[aB xU];exact hf2) ?_;have hd5:Dj H2 (Hm.put mb (true,.map es cl)):=fun b x hb=> by
    cases h:H2 b with
    | none=> rfl
    | some y=>
     have h1:=hd4 b x hb;rw[aX.base b y h] at h1;cases h1
   refine U2 ?_;refine .rt hK func284 results284 [_] ?_;exact fun H' hs'=> .inl ⟨rfl,H2,Hm,es,cl,i,z,oM,View.le_refl _,hs',hd5,AT,hm,hc7,hci,hcn,hJ2⟩
  ·refine U2 ?_;refine .rt hK func284 results284 [_] ?_;exact fun H' hs'=> .inr ⟨rfl,H4,fun b x hb=> hs'.base b x (NA hb),hD⟩
 | succ d ih=>
  intro i v mv rest hid hmv hv zG Hj Hm es cl z H hs zT AT hm hc7 hci hcn hJ;have FK:i<s.ps.length:=by omega
  have h6:=ZB.ps6;obtain⟨ef,ees,eet,eez,O9,P4⟩:=wB _ _ hJ;have hjm:Hj mb=none:=zT mb _ (View.LA ..);have hEb:(Hj.plus (Hm.put mb (true,.map es cl))) eb=some (ef,.cells ⟨ees⟩ eet eez):=NA O9;have hMb:(Hj.plus (Hm.put mb (true,.map es cl))) mb=some (true,.map es cl):=by rw[aB hjm,View.LA]
  have aBP:Hm.le (Hj.plus (Hm.put mb (true,.map es cl))):=fun b x hb=> by
   have xB:b≠mb:=by rintro rfl;rw[AT] at hb;cases hb
   have h1:(Hm.put mb (true,.map es cl)) b=some x:=by rw[View.vA _ _ xB];exact hb
   rw[aB (zT b x h1)];exact h1
  have f1:gD true 2 ees (0+(i:Int).toNat*2)=some (HG (s.ps[i]?.getD 0) i):=by rw[show(i:Int).toNat=i by simp];exact P4 i FK
  refine bA.enter (vs:= [.int .i64 i,.int .u8 v,.pointer (some ⟨b2,0,none⟩),.pointer (some ⟨b3,0,none⟩),.pointer (some ⟨b4,0,none⟩),.pointer (some ⟨b5,0,none⟩)]) func284 rfl ntmps284 (Nat.le_of_ble_eq_true rfl) (hs) fun St c cs hK=> ?_;refine QT ?_;refine Tc.drC [] [7] [] mixed rfl ?_;refine .oo 0 ?_;refine .oo 1 ?_;refine .oo 2 ?_;refine .oo 3 ?_;refine .oo 4 ?_;refine .oo 5 ?_;refine .oo 6 ?_;refine Ta.tkP 9 kR rfl rfl rfl rfl dE rfl rfl (qA.take .mv) ?_;refine Ta.vB 7 kR rfl kR rfl rfl rfl rfl rfl rfl dE (uB.h (XZ M _ s ZB eb ec mb es cl (s.ps[i]?.getD 0) i ⟨ef,ees,eet,eez,hEb,P4⟩ hMb Hm hm aBP AT FK rfl)) (fun w H1 hw=> ?_);obtain⟨Hm1,es1,cl1,TE,hd1,aGc,aGf,jG,hm1⟩:=aAp zT hw;refine Ta.lower TE ?_;have aEJ:=jG;obtain⟨⟨oa,oc,WV⟩, -, -⟩:=jG;subst WV;refine .ea 8 rfl (Or.bV .ln rfl dE ⟨S3.off kR,?_⟩);refine .dn ?_;refine U ?_;have hJ1:J (((s.opts (s.ps[i]?.getD 0) i).drop 0).flatMap (fun o=> s.leaves d (i+1) (yD v o.1.toNat) (mv++[o.2]))++rest) Hj:=hJ;refine Tc.db (Tc.NI (σ:= { x:NSt//x.j<=(s.opts (s.ps[i]?.getD 0) i).length/\x.q<=7/\Dj x.Hj (x.Hm.put mb (true,.map x.es x.cl))/\Hm1.le x.Hm/\x.Hm mb=none/\MK x.Hm s x.es.toList/\x.z.length=7/\x.z.take i=sA mv/\x.z.drop s.ps.length=List.replicate (7-s.ps.length) (.int .i64 0)/\
    J (((s.opts (s.ps[i]?.getD 0) i).drop x.j).flatMap (fun o=> s.leaves d (i+1) (yD v o.1.toNat) (mv++[o.2]))++rest) x.Hj })
   (fun x=> (x.1.Hj.plus (x.1.Hm.put mb (true,.map x.1.es x.1.cl)),[(30,.int .i64 (x.1.j:Nat)),(29,.int .i64 ((s.opts (s.ps[i]?.getD 0) i).length:Nat)),(28,.slice oa (s.opts (s.ps[i]?.getD 0) i).length oc),(0,.int .i64 (i:Nat)),(1,.int .u8 (v:Nat)),(2,.pointer (some ⟨b2,0,none⟩)),(3,.pointer (some ⟨b3,0,none⟩)),(4,.pointer (some ⟨b4,0,none⟩)),(5,.pointer (some ⟨b5,0,none⟩))],
    fR s l eb ec mb bm b2 b3 b4 b5 x.1.q x.1.z)) (fun x=> (s.opts (s.ps[i]?.getD 0) i).length-x.1.j) ?_ ⟨⟨0,Hj,Hm1,es1,cl1,i,z⟩,Nat.zero_le _,(by show i<=7;omega),hd1,View.le_refl _,aGf,hm1,hc7,hci,hcn,hJ1⟩)
  rintro⟨⟨j,Hj,Hm',es,cl,q,z⟩,g1,g2,g3,g4,g5,g6,g7,g8,g9,g10⟩ lh;simp only at g1 g2 g3 g4 g5 g6 g7 g8 g9 g10;show Tc M St _ _ (Hj.plus (Hm'.put mb (true,.map es cl))) _ [(30,.int .i64 (j:Nat)),(29,.int .i64 ((s.opts (s.ps[i]?.getD 0) i).length:Nat)),(28,.slice oa (s.opts (s.ps[i]?.getD 0) i).length oc),(0,.int .i64 (i:Nat)),(1,.int .u8 (v:Nat)),(2,.pointer (some ⟨b2,0,none⟩)),(3,.pointer (some ⟨b3,0,none⟩)),(4,.pointer (some ⟨b4,0,none⟩)),(5,.pointer (some ⟨b5,0,none⟩))]
    (fR s l eb ec mb bm b2 b3 b4 b5 q z) _ _
  have hol:=TA.I6 ZB (s.ps[i]?.getD 0) i;by_cases cj:j=(s.opts (s.ps[i]?.getD 0) i).length
  ·have hJ2:J rest Hj:=by
    rw[cj,List.drop_length] at g10;exact g10
   refine PE ?_;refine .rt hK func284 results284 [_] ?_;exact fun H' hs'=> .inl ⟨rfl,Hj,Hm',es,cl,q,z,g2,View.le_trans aGc g4,hs',g3,g5,g6,g7,g8,g9,hJ2⟩
  ·have cj2:j<(s.opts (s.ps[i]?.getD 0) i).length:=by omega
   obtain⟨⟨o1,o2⟩,BT⟩:∃o,(s.opts (s.ps[i]?.getD 0) i)[j]? =some o:=⟨_,List.getElem?_eq_getElem cj2⟩
   have aBV:=TA.JY (List.mem_of_getElem? BT);simp only at aBV;obtain⟨on,rfl⟩:=Int.eq_ofNat_of_zero_le aBV.1;have hon:on<8:=by
    have h7:(on:Int)<=7:=aBV.2;omega
   obtain⟨ob,off,oc',of,ocs,oe,ofz,ho1,ho2,ho3⟩:=aEU (aEJ.mono g4) BT;cases ho1
   have aGh:ob≠mb:=by rintro rfl;rw[g5] at ho2;cases ho2
   have aEz:(Hm'.put mb (true,.map es cl)) ob=some (of,.cells ⟨ocs⟩ oe ofz):=by rw[View.vA _ _ aGh];exact ho2
   have hob:(Hj.plus (Hm'.put mb (true,.map es cl))) ob=some (of,.cells ⟨ocs⟩ oe ofz):=by rw[aB (g3 _ _ aEz)];exact aEz
   have f2:gD true 2 ocs (off+(j:Int).toNat*2)=some (.agg ⟨[.int .i64 (on:Nat),.int .i64 o2]⟩):=by rw[show(j:Int).toNat=j by simp];exact ho3
   have f3:HF z (i*1) [.int .i64 o2]=z.set i (.int .i64 o2):=by rw[Nat.mul_one];exact DJ _ _ _ oM
   have hJ3:J (s.leaves d (i+1) (yD v on) (mv++[o2])++(((s.opts (s.ps[i]?.getD 0) i).drop (j+1)).flatMap (fun o=> s.leaves d (i+1) (yD v o.1.toNat) (mv++[o.2]))++rest)) Hj:=by
    rw[List.drop_eq_getElem_cons cj2,List.flatMap_cons,List.append_assoc] at g10;have e1:(s.opts (s.ps[i]?.getD 0) i)[j]=((on:Int),o2):=Option.some.inj ((List.getElem?_eq_getElem cj2).symm.trans BT);rw[e1] at g10;exact g10
   have hz1:(z.set i (.int .i64 o2)).length=7:=by rw[List.length_set];exact g7
   have hz2:(z.set i (.int .i64 o2)).take (i+1)=sA (mv++[o2]):=by
    rw[List.take_succ_eq_append_getElem oM,List.take_set_of_le (Nat.le_refl i),g8];simp[sA]
   have hz3:(z.set i (.int .i64 o2)).drop s.ps.length=List.replicate (7-s.ps.length) (.int .i64 0):=by rw[List.drop_set_of_lt oM];exact g9
   refine CG ?_;refine .al fun b10=> ?_;refine U3 ?_;refine Tc.drC [6,7] [] [1,3] mixed rfl ?_;refine .oo 0 ?_;refine .oo 1 ?_;refine Ta.IX 2 kR rfl rfl dE rfl rfl (qA.take (qA.sliceTo (E:=en) rfl rfl rfl rfl rfl rfl oM oM)) ?_;refine .oo 3 ?_;refine .oo 4 ?_;refine .ea 5 rfl (.bs (zz:=fun bs=> ⟨S3.mk sL (.inr sL),?_⟩));refine .ea 6 rfl (Or.Y2 (E:=en) 2 rfl rfl rfl rfl rfl rfl rfl rfl rfl rfl rfl rfl rfl (fun H hs=> OA.of (hs.get (i:=0) rfl) (Nat.le_of_ble_eq_true rfl)) rfl oM (by show i*1+1<=z.length;omega) (List.cons_ne_nil _ _) rfl dE f3 ⟨S3.mk sL (.inl kR),?_⟩);refine .ea 7 rfl (.st 4 (zz:=⟨S3.mk sL (.inl kR),?_⟩));refine .dn ?_;refine U ?_;refine Tc.drC [] [7] [] mixed rfl ?_;refine .oo 0 ?_;refine .oo 1 ?_;refine .oo 2 ?_;refine .oo 3 ?_;refine .oo 4 ?_;refine .oo 5 ?_;refine Ta.IX 6 kR rfl rfl dE rfl rfl (qA.tk fun H hs=> HV M H v on hv hon) ?_;refine Ta.lift (L₂:= [(bs,_,_),(b10,_,_)]) rfl (fun Hx hx=> ?_);refine Ta.vB 7 kR rfl kR rfl rfl rfl rfl rfl rfl dE (uB.of (first:= []) (captured:= [_,_,_,_]) aAV rfl (ih (i+1) (yD v on) (mv++[o2]) _ oM (by simp[hmv]) (KM v hv on hon) (fun y hy=> zG y (by
    unfold TA.leaves;exact List.mem_flatMap.2 ⟨_,List.mem_of_getElem? BT,hy⟩)) Hj Hm' es cl _ Hx hx g3 g5 g6 hz1 hz2 hz3 hJ3)) (fun r H3 hr=> ?_)
   rcases hr with ⟨rfl,Hj',Hm2,es',cl',q',z',g2',g4',hs',g3',g5',g6',g7',g8',g9',hJ4⟩|⟨rfl,H1,hle,hD⟩
   ·refine Ta.expand hs' ?_;refine .ea 8 rfl (Or.bV .nt rfl dE ⟨S3.off kR,?_⟩);refine .dn ?_;refine U7 ?_;have hz4:z'.take i=sA mv:=by
     have h:=congrArg (List.take i) g8';rw[List.take_take,Nat.min_eq_left oM] at h;rw[h];unfold sA;rw[<-List.map_take,List.take_left' hmv]
    have lh':=lh ⟨⟨j+1,Hj',Hm2,es',cl',q',z'⟩,by show j+1<=_;omega,g2',g3',View.le_trans g4 g4',g5',g6',g7',hz4,g9',hJ4⟩ (by show _-(j+1)<_-j;omega);exact Tc.db lh'
   ·refine Ta.lower hle ?_;refine .ea 8 rfl (Or.bV .nt rfl dE ⟨S3.off kR,?_⟩);refine .dn ?_;refine U5 ?_;refine .rt hK func284 results284 [_] ?_;exact fun H' hs'=> .inr ⟨rfl,H1,hs'.base,hD⟩
theorem T7(s:TA)(ZB:s.Ok)(eb ec mb:Nat):QJ M (.func (.func 233) #[s.val eb ec mb] #[]) s.all (fun x vb=> [.int .u8 x.1,.slice (some ⟨vb,0,none⟩) s.ps.length 7]) (fun x vb=> [(vb,true,.cells ⟨mP s.ps.length x.2⟩ 3 (0,0))]) (fun x vb=> [(vb,true,.cells ⟨mP s.ps.length x.2⟩ 3 (0,0))])
  (fun H=> nJ H s eb) [(mb,true,.map #[] 0)] H:=fun l J D wB h0 hy H' hs'=> by
 refine uB.of (first:= [_]) (captured:= []) aEa rfl ?_;refine bA.enter (vs:= [s.val eb ec mb,.func (.yield l) #[] #[]]) func233 rfl ntmps233 (Nat.le_of_ble_eq_true rfl) (hs') fun St c cs hK=> ?_;refine U2 ?_;refine .bo fun b2=> ?_;refine .bo fun b3=> ?_;refine U3 ?_;refine .e (Or.makeSlice (E:=en) (len:=0) (cap:=7) rfl rfl rfl rfl rfl rfl dE dE rfl rfl dE (fun bm=> ?_));refine .al fun b4=> ?_;refine U4 ?_;refine .al fun b5=> ?_;refine U8 ?_;refine To.lift (L₂:= []) rfl (fun Hx hx=> ?_);have hp:gA H (fR s l eb ec mb bm b2 b3 b4 b5 0 (List.replicate 7 (.int .i64 0))++[(mb,true,.map #[] 0)]) Hx:=hx.perm (by
  unfold fR;refine(List.Perm.trans ?_ (List.Perm.cons _ (List.Perm.swap _ _ _)));exact List.Perm.swap _ _ _)
 obtain⟨Hy,hy1,hy2⟩:=hp.oD;have hmH:H mb=none:=hy2.fresh (i:=0) rfl;have hle:(H.plus (View.put (fun _=> none) mb (true,.map #[] 0))).le Hy:=fun b x hb=> by
  unfold View.plus at hb;split at hb
  ·rename_i y hyb
   cases hb
   exact hy2.base _ _ hyb
  ·by_cases e:b=mb
   ·subst e;rw[View.LA] at hb;cases hb
    exact hy2.get (i:=0) rfl
   ·rw[View.vA _ _ e] at hb;cases hb
 have zT:Dj H (View.put (fun _=> none) mb (true,.map #[] 0)):=fun b x hb=> by
  by_cases e:b=mb
  ·subst e;exact hmH
  ·rw[View.vA _ _ e] at hb;cases hb
 have hn:=aCk M s ZB l eb ec mb bm b2 b3 b4 b5 J D wB hy s.ps.length 0 127 [] [] oM rfl dE (fun y h=> h) H (fun _=> none) #[] 0 (List.replicate 7 (.int .i64 0)) Hx (hy1.lower hle) zT rfl (fun e he=> by cases he) (by simp) rfl (by rw[List.drop_replicate]) (by rw[List.append_nil];exact h0);refine To.vB rfl rfl rfl rfl rfl rfl dE (uB.of (first:= []) (captured:= [_,_,_,_]) aAV rfl hn) (fun r H3 hr=> ?_);refine U ?_;refine .ov hK func233 results233 [] ?_;intro H4 aX;rcases hr with ⟨rfl,Hj',Hm2,es',cl',q',z',g2',g4',hs5,g3',g5',g6',g7',g8',g9',hJ4⟩|⟨rfl,H1,TE,hD⟩
 ·exact⟨Hj',fun b x hb=> aX.base _ _ (hs5.base _ _ (NA hb)),.inl hJ4⟩
 ·exact⟨H1,View.le_trans TE aX.base,.inr hD⟩
end
def toV(v:Nat)(o:Int×Int):Nat:=yD v o.1.toNat
def nxR(os:List (Int×Int))(R:Nat->Bool)(v j w:Nat):Bool:=((List.range v).any fun u=> (os.any fun o=> toV u o==w)&&R u)||(((os.take j).any fun o=> toV v o==w)&&R v)
def TA.BJ(s:TA):Nat->Nat->Bool
 | 0,w=> w==127
 | k+1,w=> nxR (s.opts (s.ps[k]?.getD 0) k) (s.BJ k) 128 0 w
def TA.reach(s:TA):Nat->Bool:=s.BJ s.ps.length
section
variable(M:Md prog)(H:View)
end
def Edg(H:View)(ps:List Nat)(eb:Nat):Prop:=
 ∃f es et ez,H eb=some (f,.cells ⟨es⟩ et ez)/\∀i:Nat,i<ps.length->gD true 2 es (0+i*2)=some (HG (ps[i]?.getD 0) i)
theorem Edg.le {H H':View}{ps:List Nat}{eb:Nat}(h:Edg H ps eb)(k:H.le H'):Edg H' ps eb:=by
 obtain⟨f,es,et,ez,h1,h2⟩:=h;exact⟨f,es,et,ez,k _ _ h1,h2⟩
theorem pE:∀c:Nat,c<32->0<(iA c 7).length/\(iA c 7).length<=6/\∀i:Nat,i<(iA c 7).length->(iA c 7)[i]?.getD 0<=6:=by decide +kernel
theorem Lk.kP {k:Lk}(h:k.ok=true):(1<=k.s0/\k.s0<=k.s1/\k.s1<=40)/\(1<=k.r0/\k.r0<=k.r1/\k.r1<=40)/\(-9<=k.l0/\k.l0<=k.l1/\k.l1<=9)/\(-12<=k.m0/\k.m0<=k.m1/\k.m1<=12):=by
 simp[Lk.ok,wI,Lk.O3,Lk.sends,Lk.reads,Lk.HY,Lk.mN,xK,nG,UG] at h
 omega
structure Lk.KT(k:Lk):Prop where
 s:0<=k.s0/\k.s1<=1000
 r:0<=k.r0/\k.r1<=1000
 l: -1000<=k.l0/\k.l1<=1000
 m: -1000<=k.m0/\k.m1<=1000
 o:k.s0<=1000000/\k.r0<=1000000/\k.l0<=1000000/\k.m0<=1000/\ -1000000<=k.s1/\ -1000000<=k.r1/\ -1000000<=k.l1/\ -1000000<=k.m1
theorem Lk.aFQ {k:Lk}(h:k.ok=true):k.KT:=by
 obtain⟨h1,h2,h3,h4⟩:=Lk.kP h;exact⟨oM,oM,oM,oM,oM⟩
theorem Lk.KT.C8 {k:Lk}(h:k.KT){code:Nat}(hc:code<32){x:TA}(hx:x∈k.jT code):x.Ok/\x.ps=iA code 7:=by
 obtain⟨s,r,n,f,h1,h2,h3,h4,rfl⟩:=Lk.SI.1 hx;obtain⟨g1,g2,g3,g4,g5⟩:=h;obtain⟨p1,p2,p3⟩:=pE code hc;exact⟨⟨hc,p1,p2,p3,⟨by show 0<=s;omega,by show s<=1000;omega⟩,⟨by show 0<=r;omega,by show r<=1000;omega⟩,⟨by show -1000<=n;omega,by show n<=1000;omega⟩,⟨by show -1000<=f;omega,by show f<=1000;omega⟩,⟨by show -1000<=k.m0;omega,by show k.m0<=1000;omega⟩,by show k.m1<=1000;omega⟩,rfl⟩
theorem Lk.KT.bounds {k:Lk}(h:k.KT):∀z,z∈ [k.s0,k.r0,k.l0,k.m0,k.s1,k.r1,k.l1,k.m1]-> -1000000<=z/\z<=1000000:=by
 obtain⟨g1,g2,g3,g4,g5⟩:=h;simp only[List.mem_cons,List.not_mem_nil,or_false,forall_eq_or_imp,forall_eq];omega
def Lk.AG(k:Lk)(code v:Nat):Bool:=(k.jT code).any fun s=> s.reach v
section
variable(M:Md prog)(H:View)
end
def aK(rt:Nat)(x:Nat×List Int):Bool:=x.1 !=rt
def TA.YC(s:TA)(rt:Nat):Option (Int×Int×Int×List Int):=(s.all.find? (aK rt)).map fun x=> (s.send,s.read,s.lean,x.2)
def Lk.YC(k:Lk)(code:Nat):Option (Int×Int×Int×List Int):=(k.jT code).findSome? fun s=> s.YC (EB code)
theorem TA.ZO(s:TA):∀(d i v:Nat) (mv:List Int) (x:Nat×List Int),x∈s.leaves d i v mv->x.2.length=mv.length+d
 | 0,_,_,mv,x,h=> by
  simp only[TA.leaves,List.mem_singleton] at h;subst h;rfl
 | d+1,i,v,mv,x,h=> by
  unfold TA.leaves at h;obtain⟨o,_,h2⟩:=List.mem_flatMap.1 h;have:=TA.ZO s d (i+1) _ _ x h2;rw[this];simp
  omega
theorem TA.ZQ(s:TA):∀(d i v:Nat) (mv:List Int) (x:Nat×List Int),v<128->x∈s.leaves d i v mv->x.1<128
 | 0,_,_,mv,x,hv,h=> by
  simp only[TA.leaves,List.mem_singleton] at h;subst h;exact hv
 | d+1,i,v,mv,x,hv,h=> by
  unfold TA.leaves at h;obtain⟨o,h1,h2⟩:=List.mem_flatMap.1 h;have:=TA.JY h1;exact TA.ZQ s d (i+1) _ _ x (KM v hv _ oM) h2
theorem TA.W8 {s:TA}{x:Nat×List Int}(h:x∈s.all):x.2.length=s.ps.length:=by
 have:=TA.ZO s _ _ _ _ x h;simpa using this
def fE(s r n:Int)(g:Gl 3 1):Value:=.agg ⟨[.int .i64 s,.int .i64 r,.int .i64 n,g.val]⟩
def aDR(o:Option (Int×Int×Int×List Int))(H:View)(v:Value)(H':View):Prop:=
 match o with
 | none=> v=.tuple ⟨[.agg ⟨[.int .i64 0,.int .i64 0,.int .i64 0,.slice none 0 0]⟩,.bool false]⟩
 | some (s,r,n,mv)=> ∃g:Gl 3 1,v=.tuple ⟨[fE s r n g,.bool true]⟩/\g.l=sA mv/\∀y∈g.bl,H' y.1=some y.2/\H y.1=none
section
variable(M:Md prog)(H:View)
theorem GJ(k:Lk)(hk:k.KT)(code eb ec:Nat)(hc:code<32)(hE:Edg H (iA code 7) eb):
  bA M 159 #[k.val,.agg ⟨[.int .i64 code,.slice (some ⟨eb,0,none⟩) (iA code 7).length ec]⟩] H (fun v H'=> H.le H'/\aDR (k.YC code) H v H'):=by
 refine .en func159 ntmps159 fun St c cs hK=> ?_;refine U2 ?_;refine .bo fun b2=> ?_;refine .bo fun b3=> ?_;refine .al fun b4=> ?_;refine .al fun b5=> ?_;refine U4 ?_;refine .cl (fun H hs=> aAw M H code _ hc) ?_;refine .al fun b6=> ?_;refine U7 ?_;refine To.vB rfl rfl rfl rfl rfl rfl dE (uB.h (CX M H k code (iA code 7).length eb ec)) (fun w H1 hw=> ?_);obtain⟨TE,c2,c5,c3,rfl,wB⟩:=hw;refine U2 ?_;have O9:=hE.le TE;refine Tc.db (R':= [(14,aDz c2 c5 c3),(4,.pointer (some ⟨b4,0,none⟩)),(5,.pointer (some ⟨b5,0,none⟩)),(6,.pointer (some ⟨b6,0,none⟩))]) (L':= [(b6,true,.cells ⟨[.int .u8 (EB code:Nat)]⟩ 153 (0,0)),(b5,true,.cells ⟨[.bool false]⟩ 4 (0,0)),(b4,true,.cells ⟨[.int .i64 0,.int .i64 0,.int .i64 0,.slice none 0 0]⟩ 74 (0,0))]) ?_;refine Tc.zK (A:= []) (xs:=k.jT code) (ts:= [15]) (fun rest H₁ L₁=> L₁= [(b6,true,.cells ⟨[.int .u8 (EB code:Nat)]⟩ 153 (0,0)),(b5,true,.cells ⟨[.bool false]⟩ 4 (0,0)),(b4,true,.cells ⟨[.int .i64 0,.int .i64 0,.int .i64 0,.slice none 0 0]⟩ 74 (0,0))]/\H1.le H₁/\(rest.findSome? fun s=> s.YC (EB code))=k.YC code)
   (fun j H₁ L₁=> j=.ret/\H1.le H₁/\∃(s r n:Int) (mv:List Int) (g:Gl 3 1),k.YC code=some (s,r,n,mv)/\g.l=sA mv/\(∀y∈g.bl,H₁ y.1=some y.2/\H y.1=none)/\L₁= [(b6,true,.cells ⟨[.int .u8 (EB code:Nat)]⟩ 153 (0,0)),(b5,true,.cells ⟨[.bool true]⟩ 4 (0,0)),(b4,true,.cells ⟨[.int .i64 s,.int .i64 r,.int .i64 n,Gl.val g]⟩ 74 (0,0))])
   rfl rfl rfl rfl (fun H h=> xV M H k code eb ec c2 c5 c3 hk.bounds h) (XF.le) (fun rest H₁ L₁ ⟨_,h,_⟩=> wB.le _ _ h) rfl (fun _ _=> rfl) ⟨rfl,View.le_refl _,rfl⟩ ?_ ?_ ?_
 ·rintro r s rest mb l tmps asg bdy H₁ _ hs ⟨rfl,iG,Q9⟩ Q1 St1 cc1 cs1 ZM q1 q1';obtain⟨ZB,fQ⟩:=hk.C8 hc hs;have P4:nJ H₁ s eb:=by
   have:=O9.le iG;rw[<-fQ] at this;exact this
  have aEo:∀H H':View,H.le H'->nJ H s eb->nJ H' s eb:=fun H H' hle he=> Edg.le he hle;refine U ?_;refine .al fun b7=> ?_;refine U2 ?_;refine Tc.beginRound (i:=2) rfl rfl rfl ?_;refine U7 ?_;refine Tc.perm (List.Perm.swap _ _ _) ?_;refine Tc.pV (A:= [(mb,true,.map #[] 0)]) (i:=2) (xs:=s.all) (ts:= [18,19]) (fun rest2 H₂ L₂=> L₂= [(b7,true,.cells ⟨(s.val eb ec mb).cells.toList⟩ 331 (0,0)),(l,true,.loop { Loop.fresh 159 tmps [15].toArray asg bdy r with state:=.busy }),(r,true,.deferred (some [])),(b6,true,.cells ⟨[.int .u8 (EB code:Nat)]⟩ 153 (0,0)),(b5,true,.cells ⟨[.bool false]⟩ 4 (0,0)),(b4,true,.cells ⟨[.int .i64 0,.int .i64 0,.int .i64 0,.slice none 0 0]⟩ 74 (0,0))]/\H1.le H₂/\rest2.find? (aK (EB code))=s.all.find? (aK (EB code)))
   (fun j H₂ L₂=> j=.ret/\H1.le H₂/\∃(s' r' n:Int) (mv:List Int) (g:Gl 3 1),k.YC code=some (s',r',n,mv)/\g.l=sA mv/\(∀y∈g.bl,H₂ y.1=some y.2/\H y.1=none)/\L₂= [(b7,true,.cells ⟨(s.val eb ec mb).cells.toList⟩ 331 (0,0)),(l,true,.loop { Loop.fresh 159 tmps [15].toArray asg bdy r with state:=.busy }),(r,true,.deferred (some [])),(b6,true,.cells ⟨[.int .u8 (EB code:Nat)]⟩ 153 (0,0)),(b5,true,.cells ⟨[.bool true]⟩ 4 (0,0)),(b4,true,.cells ⟨[.int .i64 s',.int .i64 r',.int .i64 n,Gl.val g]⟩ 74 (0,0))])
   rfl rfl rfl rfl rfl (fun H h=> T7 M H s ZB eb ec mb) aEo (fun rest H₁ L₁ ⟨_,h,_⟩=> ?_) rfl (fun _ _=> rfl) ⟨rfl,iG,rfl⟩ ?_ ?_ ?_
  ·have h':=O9.le h;rw[<-fQ] at h';exact h'
  ·rintro x rest2 vb l2 tmps2 asg2 bdy2 H₂ _ hx ⟨rfl,pM,hfd⟩ Q2 St2 cc2 cs2 hK2 q2 q2';have B8:=TA.W8 hx;have P1:x.1<128:=TA.ZQ s _ _ _ _ x dE hx;have h6:=ZB.ps6;refine U7 ?_;refine Tc.beginRound (i:=1) rfl rfl rfl ?_;by_cases cx:x.1=EB code
   ·have aBL:rest2.find? (aK (EB code))=s.all.find? (aK (EB code)):=by
     rw[<-hfd,List.find?_cons_of_neg (by simp[aK,cx])]
    refine lD ?_;refine Tc.GA hK2 (i:=1) rfl (.inl ⟨rfl,rfl⟩) (fun H' hs'=> q2 H' _ _ hs' ⟨rfl,pM,aBL⟩)
   ·have aBL:s.all.find? (aK (EB code))=some x:=by
     rw[<-hfd,List.find?_cons_of_pos (by simp[aK,cx])]
    have hw:k.YC code=some (s.send,s.read,s.lean,x.2):=by
     rw[<-Q9];have h1:s.YC (EB code)=some (s.send,s.read,s.lean,x.2):=by unfold TA.YC;rw[aBL];rfl
     rw[List.findSome?_cons,h1]
    have aGj:((mP s.ps.length x.2).drop 0).take (s.ps.length*1)=sA x.2:=by
     rw[List.drop_zero,Nat.mul_one];unfold mP;rw[List.take_left' (by rw[HA];exact B8)]
    have F5:0+s.ps.length*1<=(mP s.ps.length x.2).length:=by
     unfold mP;rw[List.length_append,HA,B8];simp
    have hsg:(sA x.2).all single=true:=by
     rw[List.all_eq_true];intro y hy;obtain⟨z,_,rfl⟩:=List.mem_map.1 hy;rfl
    have jG:∀H:View,H vb=some (true,.cells ⟨mP s.ps.length x.2⟩ 3 (0,0))->OA H 1 (.slice (some ⟨vb,0,none⟩) s.ps.length 7) s.ps.length (sA x.2):=fun _ h=> aGj▸OA.of h F5;refine U9 ?_;refine Tc.dr [9,10] [6,7] mixed rfl ?_;refine V7 0 ?_;refine .ea 7 rfl (Or.ZA Gl.val Gl.bl (fun g:Gl 3 1=> g.l=sA x.2) rfl rfl rfl rfl rfl dE OC (fun H hs=> .h (bA.mono (y9 M H _ s.ps.length 7 (sA x.2) oM (jG H (hs.get (i:=0) rfl)) hsg) (by rintro v H' ⟨h1,g,h2,h3,h4⟩;exact⟨h1,g,h2,h3,h4⟩))) (fun g TN=> ⟨S2.mk sL (.inr sL),?_⟩));refine .nn 8 ?_;refine .e 9 7 ?_;refine .e 10 6 ?_;refine .dn ?_;refine Tc.lift (L₂:= [_,_,_,_,_,_,_,_]) rfl (fun Hx hx=> ?_);refine Tc.GA hK2 (i:=1) rfl (.inr (.inl ⟨_,rfl,rfl⟩)) (fun H' hs'=> q2' H' _ _ _ (hs'.less sL) ⟨rfl,View.le_trans pM hx.base,s.send,s.read,s.lean,x.2,g,hw,TN,fun y hy=> ⟨hx.at_ y hy,?_⟩,rfl⟩);have h1:=hx.out y hy;cases h2:H y.1 with
    | none=> rfl
    | some z=> rw[pM _ _ (TE _ _ h2)] at h1;cases h1
  ·rintro H₂ _ ⟨rfl,pM,VW⟩;have aF1:(rest.findSome? fun s=> s.YC (EB code))=k.YC code:=by
    rw[<-Q9,List.findSome?_cons];have h1:s.YC (EB code)=none:=by unfold TA.YC;rw[<-VW];rfl
    rw[h1]
   refine U2 ?_;refine Tc.GA ZM (i:=1) rfl (.inl ⟨rfl,rfl⟩) (fun H' hs'=> q1 H' _ _ (hs'.less sL) ⟨rfl,pM,aF1⟩)
  ·rintro j H₂ _ ⟨rfl,pM,s',r',n',mv,g,hw,hg,hgb,rfl⟩;refine Tc.GA ZM (i:=1) rfl (.inr (.inl ⟨_,rfl,rfl⟩)) (fun H' hs'=> q1' H' _ _ _ (hs'.less sL) ⟨rfl,pM,s',r',n',mv,g,hw,hg,hgb,rfl⟩)
 ·rintro r H₁ _ ⟨rfl,iG,Q9⟩;have mH:k.YC code=none:=by rw[<-Q9];rfl
  refine U7 ?_;refine Tc.aT (E:=en) (i:=0) hK func159 results159 (vs:= [_,_]) rfl (by refine⟨⟨3,_,_,_,_,_,_,_,rfl,rfl,rfl,rfl⟩,?_⟩;refine⟨⟨2,_,_,_,_,_,_,_,rfl,rfl,rfl,rfl⟩,?_⟩;exact trivial) ?_;exact fun H' hs=> ⟨View.le_trans TE (View.le_trans iG hs.base),by rw[mH];rfl⟩
 ·rintro r j H₁ _ ⟨rfl,iG,s,r',n,mv,g,hw,hg,hgb,rfl⟩;refine Tc.aT (E:=en) (i:=0) hK func159 results159 (vs:= [_,_]) rfl (by refine⟨⟨3,_,_,_,_,_,_,_,rfl,rfl,rfl,rfl⟩,?_⟩;refine⟨⟨2,_,_,_,_,_,_,_,rfl,rfl,rfl,rfl⟩,?_⟩;exact trivial) ?_;exact fun H' hs=> ⟨View.le_trans TE (View.le_trans iG hs.base),by rw[hw];exact⟨g,rfl,hg,fun y hy=> ⟨hs.base _ _ (hgb y hy).1,(hgb y hy).2⟩⟩⟩
end
def MN(code:Nat)(x:Nat×Nat×List Value):Value:=.agg ⟨[.int .i64 code,.slice (some ⟨x.1,0,none⟩) (iA code 7).length x.2.1]⟩
def uL(code:Nat)(x:Nat×Nat×List Value):Bl:= [(x.1,true,.cells ⟨sC (iA code 7)++x.2.2⟩ 270 (0,0))]
theorem XE(code:Nat)(x:Nat×Nat×List Value):((uL code x).map (·.1)).Nodup:=by simp[uL]
def cD(s:Nat)(ps:List Nat):List Value:=((ps.zipIdx s).map fun x=> [Value.int .i64 (x.1:Nat),Value.int .i64 (x.2:Nat)]).flatten
theorem BI:∀(ps:List Nat) (s i:Nat),i<ps.length->((cD s ps).drop (i*2)).take 2= [.int .i64 (ps[i]?.getD 0:Nat),.int .i64 (s+i:Nat)]
 | [],_,_,h=> by simp at h
 | p ::ps,s,i,h=> by
  have e:cD s (p::ps)= [.int .i64 (p:Nat),.int .i64 (s:Nat)]++cD (s+1) ps:=by simp[cD]
  rw[e];cases i with
  | zero=> simp
  | succ i=>
   rw[show(i+1)*2=i*2+2 by omega,List.drop_append];simp only[List.length_cons,List.length_nil];rw[show i*2+2-(0+1+1)=i*2 by omega,List.drop_eq_nil_of_le (by simp),List.nil_append,BI ps (s+1) i (by simpa using h)];simp
   omega
theorem bQ(ps:List Nat):(sC ps).length=ps.length*2:=by
 have:∀(ps:List Nat) (s:Nat),(cD s ps).length=ps.length*2:=by
  intro ps;induction ps with
  | nil=> intro s;rfl
  | cons p ps ih=>
   intro s;have e:cD s (p::ps)= [.int .i64 (p:Nat),.int .i64 (s:Nat)]++cD (s+1) ps:=by simp[cD]
   rw[e,List.length_append,ih];simp
   omega
 exact this ps 0
theorem nK {H:View}{code:Nat}{x:Nat×Nat×List Value}(h:∀y∈uL code x,H y.1=some y.2):Edg H (iA code 7) x.1:=by
 refine⟨_,_,_,_,h (x.1,true,.cells ⟨sC (iA code 7)++x.2.2⟩ 270 (0,0)) (by simp[uL]),fun i hi=> ?_⟩;have hl:=bQ (iA code 7);have hle:Nat.ble (0+i*2+2) (sC (iA code 7)++x.2.2).length=true:=Nat.ble_eq_true_of_le (by rw[List.length_append];omega);unfold gD;simp only[hle];have h1:=BI (iA code 7) 0 i hi
 congr 3
 rw[Nat.zero_add,List.drop_append_of_le_length oM,List.take_append_of_le_length (by rw[List.length_drop];omega)];have h2:cD 0 (iA code 7)=sC (iA code 7):=rfl;rw[<-h2,h1,Nat.zero_add]
section
variable(M:Md prog)(H:View)
theorem sY {e:TypeId}{sz:Nat}(g:Gl e sz)(h:0<g.n):∃b,g.blk=some b:=by
 cases hb:g.blk with
 | some b=> exact⟨b,rfl⟩
 | none=>
  have h1:=g.h0 hb;have h2:=g.hc;omega
theorem KH(code:Nat)(h1:code<32):bA M 152 #[.int .i64 code] H (fun v H'=> H.le H'/\∃x,v=MN code x/\True/\∀y∈uL code x,H' y.1=some y.2/\H y.1=none):=
 bA.mono (bP M H code h1) (by
  rintro v H' ⟨h2,g,rfl,h3,h4,h5⟩;obtain⟨b,hb⟩:=sY g (by rw[h3];exact(pE code h1).1);refine⟨h2,(b,g.cap,g.qB),?_,trivial,fun y hy=> h5 y ?_⟩
  ·unfold MN Gl.val;rw[hb,h3];rfl
  ·unfold Gl.bl;rw[hb,h4];exact hy)
theorem aDG(k:Lk)(hk:k.KT)(code:Nat)(hc:code<32):bA M 73 #[k.val,.int .i64 code] H (fun v H'=> H.le H'/\v=.bool (k.YC code).isNone):=by
 refine .en func73 ntmps73 fun St c cs hK=> ?_;cases hw:k.YC code with
 | none=>
  refine U2 ?_;refine .bo fun b2=> ?_;refine U3 ?_;refine Tc.via (fun R' L'=> PB [(6,.bool false)] R') ?_ (fun fin=> ?_)
  ·intro R' L' hR;refine Tc.rC (R':= [(6,.bool false)]) (L':= []) ?_ hR (List.nil_sublist _);refine U6 ?_;refine .rt hK func73 results73 [_] ?_;exact fun H' hs=> ⟨hs.base,by rw[hw];rfl⟩
  ·refine Tc.dr [8] [] mixed rfl ?_;refine V2 0 ?_;refine Ta.each [2,7] kR rfl ⟨GC.mk rfl rfl rfl (Or.ZA (MN code) (uL code) (fun _=> True) rfl rfl rfl rfl rfl dE (XE code) (fun H hs=> .h (KH M H code hc)) (fun x hx=> ⟨S2.mk sL (.inr sL),?_⟩)),GC.mk rfl rfl rfl (.al (zz:=fun nb=> ⟨S2.mk sL (.inr sL),?_⟩)),trivial⟩
   ·refine Ta.each [3,7] kR rfl ⟨GC.mk rfl rfl rfl (Or.ZA (σ:=Unit) (fun _=> .tuple ⟨[.agg ⟨[.int .i64 0,.int .i64 0,.int .i64 0,.slice none 0 0]⟩,.bool false]⟩) (fun _=> []) (fun _=> True) rfl rfl rfl rfl rfl dE (fun _=> by simp) (fun H hs=> .h (bA.mono (GJ M H k hk code x.1 x.2.1 hc (nK fun y hy=> hs.at_ y (by simp[hy]))) (by rintro v H' ⟨h1,h2⟩;rw[hw] at h2;exact⟨h1,(),h2,trivial,by simp⟩))) (fun _ _=> ⟨S2.mk sL (.inr sL),?_⟩)),GC.mk rfl rfl rfl (.al (zz:=fun nb=> ⟨S2.mk sL (.inr sL),?_⟩)),trivial⟩
    ·refine V2 4 ?_;refine .nw 6 ?_;refine .ea 7 rfl (.al (zz:=fun nb=> ⟨S2.mk sL (.inr sL),?_⟩));refine .e 8 0 ?_;refine .nw 9 ?_;refine .dn ?_;exact fin _ _ ⟨rfl,trivial⟩
    ·refine .ea 3 rfl (Or.ZA (σ:=Unit) (fun _=> .tuple ⟨[.agg ⟨[.int .i64 0,.int .i64 0,.int .i64 0,.slice none 0 0]⟩,.bool false]⟩) (fun _=> []) (fun _=> True) rfl rfl rfl rfl rfl dE (fun _=> by simp) (fun H hs=> .h (bA.mono (GJ M H k hk code x.1 x.2.1 hc (nK fun y hy=> hs.at_ y (by simp[hy]))) (by rintro v H' ⟨h1,h2⟩;rw[hw] at h2;exact⟨h1,(),h2,trivial,by simp⟩))) (fun _ _=> ⟨S2.mk sL (.inr sL),?_⟩));refine V2 4 ?_;refine .nw 6 ?_;refine .e 8 0 ?_;refine .nw 9 ?_;refine .dn ?_;exact fin _ _ ⟨rfl,trivial⟩
   ·refine .ea 2 rfl (Or.ZA (MN code) (uL code) (fun _=> True) rfl rfl rfl rfl rfl dE (XE code) (fun H hs=> .h (KH M H code hc)) (fun x hx=> ⟨S2.mk sL (.inr sL),?_⟩));refine .ea 3 rfl (Or.ZA (σ:=Unit) (fun _=> .tuple ⟨[.agg ⟨[.int .i64 0,.int .i64 0,.int .i64 0,.slice none 0 0]⟩,.bool false]⟩) (fun _=> []) (fun _=> True) rfl rfl rfl rfl rfl dE (fun _=> by simp) (fun H hs=> .h (bA.mono (GJ M H k hk code x.1 x.2.1 hc (nK fun y hy=> hs.at_ y (by simp[hy]))) (by rintro v H' ⟨h1,h2⟩;rw[hw] at h2;exact⟨h1,(),h2,trivial,by simp⟩))) (fun _ _=> ⟨S2.mk sL (.inr sL),?_⟩));refine V2 4 ?_;refine .nw 6 ?_;refine .e 8 0 ?_;refine .nw 9 ?_;refine .dn ?_;exact fin _ _ ⟨rfl,trivial⟩
 | some w=>
  obtain⟨s,r,n,mv⟩:=w;refine U2 ?_;refine .bo fun b2=> ?_;refine U3 ?_;refine Tc.via (fun R' L'=> PB [(6,.bool true)] R') ?_ (fun fin=> ?_)
  ·intro R' L' hR;refine Tc.rC (R':= [(6,.bool true)]) (L':= []) ?_ hR (List.nil_sublist _);refine U6 ?_;refine .rt hK func73 results73 [_] ?_;exact fun H' hs=> ⟨hs.base,by rw[hw];rfl⟩
  ·refine Tc.dr [8] [] mixed rfl ?_;refine V2 0 ?_;refine Ta.each [2,7] kR rfl ⟨GC.mk rfl rfl rfl (Or.ZA (MN code) (uL code) (fun _=> True) rfl rfl rfl rfl rfl dE (XE code) (fun H hs=> .h (KH M H code hc)) (fun x hx=> ⟨S2.mk sL (.inr sL),?_⟩)),GC.mk rfl rfl rfl (.al (zz:=fun nb=> ⟨S2.mk sL (.inr sL),?_⟩)),trivial⟩
   ·refine Ta.each [3,7] kR rfl ⟨GC.mk rfl rfl rfl (Or.ZA (fun g:Gl 3 1=> .tuple ⟨[fE s r n g,.bool true]⟩) Gl.bl (fun _=> True) rfl rfl rfl rfl rfl dE OC (fun H hs=> .h (bA.mono (GJ M H k hk code x.1 x.2.1 hc (nK fun y hy=> hs.at_ y (by simp[hy]))) (by rintro v H' ⟨h1,h2⟩;rw[hw] at h2;obtain⟨g,h3,_,h4⟩:=h2;exact⟨h1,g,h3,trivial,h4⟩))) (fun g _=> ⟨S2.mk sL (.inr sL),?_⟩)),GC.mk rfl rfl rfl (.al (zz:=fun nb=> ⟨S2.mk sL (.inr sL),?_⟩)),trivial⟩
    ·refine V2 4 ?_;refine .nw 6 ?_;refine .ea 7 rfl (.al (zz:=fun nb=> ⟨S2.mk sL (.inr sL),?_⟩));refine .e 8 0 ?_;refine .nw 9 ?_;refine .dn ?_;exact fin _ _ ⟨rfl,trivial⟩
    ·refine .ea 3 rfl (Or.ZA (fun g:Gl 3 1=> .tuple ⟨[fE s r n g,.bool true]⟩) Gl.bl (fun _=> True) rfl rfl rfl rfl rfl dE OC (fun H hs=> .h (bA.mono (GJ M H k hk code x.1 x.2.1 hc (nK fun y hy=> hs.at_ y (by simp[hy]))) (by rintro v H' ⟨h1,h2⟩;rw[hw] at h2;obtain⟨g,h3,_,h4⟩:=h2;exact⟨h1,g,h3,trivial,h4⟩))) (fun g _=> ⟨S2.mk sL (.inr sL),?_⟩));refine V2 4 ?_;refine .nw 6 ?_;refine .e 8 0 ?_;refine .nw 9 ?_;refine .dn ?_;exact fin _ _ ⟨rfl,trivial⟩
   ·refine .ea 2 rfl (Or.ZA (MN code) (uL code) (fun _=> True) rfl rfl rfl rfl rfl dE (XE code) (fun H hs=> .h (KH M H code hc)) (fun x hx=> ⟨S2.mk sL (.inr sL),?_⟩));refine .ea 3 rfl (Or.ZA (fun g:Gl 3 1=> .tuple ⟨[fE s r n g,.bool true]⟩) Gl.bl (fun _=> True) rfl rfl rfl rfl rfl dE OC (fun H hs=> .h (bA.mono (GJ M H k hk code x.1 x.2.1 hc (nK fun y hy=> hs.at_ y (by simp[hy]))) (by rintro v H' ⟨h1,h2⟩;rw[hw] at h2;obtain⟨g,h3,_,h4⟩:=h2;exact⟨h1,g,h3,trivial,h4⟩))) (fun g _=> ⟨S2.mk sL (.inr sL),?_⟩));refine V2 4 ?_;refine .nw 6 ?_;refine .e 8 0 ?_;refine .nw 9 ?_;refine .dn ?_;exact fin _ _ ⟨rfl,trivial⟩
end
def Lk.nE(k:Lk)(c:Nat):Bool:=(k.YC c).isNone
def aDT(l:List Value)(H:View)(v:Value)(H':View):Prop:=H.le H'/\∃g:Gl 3 1,v=.tuple ⟨[g.val,.int .i64 0]⟩/\g.l=l/\∀y∈g.bl,H' y.1=some y.2/\H y.1=none
section
variable(M:Md prog)(H:View)
theorem N0(k:Lk)(hk:k.KT):aBc M H (.func (.func 73) #[k.val] #[]) 32 k.nE:=fun i hi H' _=>
 uB.of (first:= [k.val]) (captured:= []) aFE rfl (aDG M H' k hk i hi)
theorem aB8(many:Nat)(fv:Value)(p:Nat->Bool)(hm:many<=100000)(hp:aBc M H fv many p):bA M 72 #[.int .i64 many,fv] H (fun v H'=> H.le H'/\∃g:Gl 3 1,v=g.val/\g.l=ID p many/\∀x∈g.bl,H' x.1=some x.2/\H x.1=none):=aB7 M H many fv p hm hp
theorem aBi(k:Lk)(hG:aE H)(hk:k.ok=true):bA M 23 #[k.val] H (aDT (ID k.nE 32) H):=by
 refine .en func23 ntmps23 fun St c cs hK=> ?_;refine U2 ?_;refine .bo fun b1=> ?_;refine U7 ?_;refine .cl (fun H hs=> xI M H k (IA hG hs.base) hk) ?_;refine QE ?_;refine .e (Or.ZA Gl.val Gl.bl (fun g:Gl 3 1=> g.l=ID k.nE 32) rfl rfl rfl rfl rfl dE OC (fun H hs=> .h (aB8 M H 32 _ k.nE dE (N0 M H k (Lk.aFQ hk)))) (fun g hg=> ?_));refine U3 ?_;refine .rt hK func23 results23 [_,_] ?_;exact fun H' hs=> ⟨hs.base,g,rfl,hg,fun y hy=> ⟨hs.at_ y (by simp[hy]),hs.out y (by simp[hy])⟩⟩
end
def Lk.seen(k:Lk)(c:Nat):Nat:=((List.range 128).filter (k.AG c)).length
def Lk.pO(k:Lk)(c:Nat):Int:=if k.AG c (EB c) then(if k.seen c=1 then 1 else 0) else 2
section
variable(M:Md prog)(H:View)
theorem aCm(k:Lk)(code:Nat)(hG:aE H)(hk:k.ok=true)(hc:code<32):bA M 63 #[k.val,.int .i64 code] H (fun v H'=> H.le H'/\∃x:Nat×Nat×List Value,v=.tuple ⟨[k.val,MN code x,.int .i64 0]⟩/\True/\∀y∈uL code x,H' y.1=some y.2/\H y.1=none):=
 bA.mono (vC M H k code hG hk hc) (by
  rintro v H' ⟨h2,g,rfl,⟨h3,h4⟩,h5⟩;obtain⟨b,hb⟩:=sY g (by rw[h3];exact(pE code hc).1);refine⟨h2,(b,g.cap,g.qB),?_,trivial,fun y hy=> h5 y ?_⟩
  ·unfold HS MN Gl.val;rw[hb,h3];rfl
  ·unfold Gl.bl;rw[hb,h4];exact hy)
end
def QH(l:List Nat):List Value:=l.map fun p=> .int .i64 (p:Nat)
section
variable(M:Md prog)(H:View)
end
theorem nR:∀v:Nat,v<128->∀n:Nat,n<32->(OE v=some n<->v=64+2*n):=by decide +kernel
theorem qV {v n:Nat}(h:OE v=some n):n<32:=by
 unfold OE at h;split at h
 ·cases h
  omega
 ·cases h
def Lk.FG(k:Lk)(c n:Nat):Bool:=k.AG c (64+2*n)
def Lk.bad(k:Lk)(c:Nat):Bool:=(List.range 128).any fun v=> k.AG c v&&(OE v).isNone
def Lk.refused(k:Lk)(c:Nat):Int:=if k.bad c then(if(ID (k.FG c) 32).length=0 then 1 else 0) else 2
section
variable(M:Md prog)(H:View)
end
section
variable(M:Md prog)(H:View)
end
def dO(H:View)(A:Option Addr)(l:List Int):Prop:=
 l= []\/∃ab ao f gs gt gz,A=some ⟨ab,ao,none⟩/\H ab=some (f,.cells ⟨gs⟩ gt gz)/\∀j:Nat,j<l.length->gD false 1 gs (ao+(j:Int).toNat*1)=some (.int .i64 (l[j]?.getD 0))
theorem dO.le {H H':View}{A:Option Addr}{l:List Int}(h:dO H A l)(k:H.le H'):dO H' A l:=by
 rcases h with h|⟨ab,ao,f,gs,gt,gz,h1,h2,h3⟩
 ·exact .inl h
 ·exact .inr ⟨ab,ao,f,gs,gt,gz,h1,k _ _ h2,h3⟩
theorem dO.of {H:View}{g:Gl 3 1}{l:List Int}(hl:g.l=sA l)(h:∀y∈g.bl,H y.1=some y.2):g.n=l.length/\dO H (g.blk.map fun b=> ⟨b,0,none⟩) l:=by
 have hn:g.n=l.length:=by
  have:=g.hl;rw[hl,HA] at this;omega
 refine⟨hn,?_⟩;obtain⟨_|b,n,cap,gl,gj,h1,h2,h3,h4⟩:=g
 ·have:=h4 rfl;simp only at hn h2;refine .inl (List.eq_nil_of_length_eq_zero oM)
 ·refine .inr ⟨b,0,true,gl++gj,3,(0,0),rfl,h (b,true,.cells ⟨gl++gj⟩ 3 (0,0)) (by simp[Gl.bl]),fun j hj=> ?_⟩;simp only at hl;subst hl;show(sA l++gj)[0+(j:Int).toNat*1]? =_;rw[Nat.zero_add,Nat.mul_one,Int.toNat_natCast,List.getElem?_append_left (by rw[HA];exact hj)];unfold sA;rw[List.getElem?_map,List.getElem?_eq_getElem hj];rfl
def eI(p:Nat->Bool)(k:Nat):List Int:=((List.range k).filter p).map fun i:Nat=> (i:Int)
theorem X5(p:Nat->Bool)(k:Nat):ID p k=sA (eI p k):=by
 unfold ID eI sA;rw[List.map_map];rfl
section
variable(M:Md prog)(H:View)
theorem YB(a b low high:Int):bA M 168 #[FD a b,.int .i64 low,.int .i64 high] H (fun v H'=> H.le H'/\v=.bool (decide (a<=b/\low<=a/\b<=high))):=by
 refine .en func168 ntmps168 fun St c cs hK=> ?_;by_cases c1:a<=b
 all_goals by_cases c2:low<=a
 all_goals by_cases c3:b<=high
 all_goals (
  refine U2 ?_;refine .bo fun b3=> ?_;refine U8 ?_;refine .i ?_ (z:=by first|exact KD oM|exact JD oM);refine U ?_;first|(refine .sk ?_)|(refine .x .fa ?_)
  first|(refine .sk ?_)|((refine .x (.ld 0) ?_))
  first|(refine .sk ?_)|(refine .m ?_)
  first|(refine .sk ?_)|(refine .x (.it (zz:=(by first|exact WJ oM|exact cI oM))) ?_)
  refine U2 ?_;first|(refine .sk ?_)|(refine .x .fa ?_)
  first|(refine .sk ?_)|((refine .x (.ld 0) ?_))
  first|(refine .sk ?_)|(refine .m ?_)
  first|(refine .sk ?_)|(refine .x (.it (zz:=(by first|exact KD oM|exact JD oM))) ?_)
  refine U3 ?_;refine .rt hK func168 results168 [_] ?_;exact fun H' hs=> ⟨hs.base,by simp[c1,c2,c3];rfl⟩)
theorem sG(a b:Int):bA M 149 #[FD a b] H (fun v H'=> H.le H'/\v=.bool (xK a b)):=by
 refine .en func149 ntmps149 fun St c cs hK=> ?_;by_cases c1:a<=b/\1<=a/\b<=40
 ·by_cases c2:b-a<3
  ·have e:xK a b=true:=decide_eq_true oM;refine U2 ?_;refine .bo fun b1=> ?_;refine U5 ?_;refine .cl (fun H hs=> bA.is (.bool true) (by rewrite [decide_eq_true c1];rfl) (YB M H a b 1 40)) ?_;refine lD ?_;refine .rt hK func149 results149 [_] ?_;exact fun H' hs=> ⟨hs.base,by rw[e];rfl⟩
  ·have e:xK a b=false:=decide_eq_false oM;refine U2 ?_;refine .bo fun b1=> ?_;refine U5 ?_;refine .cl (fun H hs=> bA.is (.bool true) (by rewrite [decide_eq_true c1];rfl) (YB M H a b 1 40)) ?_;refine lD ?_;refine .rt hK func149 results149 [_] ?_;exact fun H' hs=> ⟨hs.base,by rw[e];rfl⟩
 ·have e:xK a b=false:=decide_eq_false oM;refine U2 ?_;refine .bo fun b1=> ?_;refine U5 ?_;refine .cl (fun H hs=> bA.is (.bool false) (by rewrite [decide_eq_false c1];rfl) (YB M H a b 1 40)) ?_;refine lD ?_;refine .rt hK func149 results149 [_] ?_;exact fun H' hs=> ⟨hs.base,by rw[e];rfl⟩
theorem B0(a b x y:Int):bA M 150 #[.agg ⟨[.int .i64 a,.int .i64 b,.int .i64 x,.int .i64 y]⟩] H (fun v H'=> H.le H'/\v=.int .i64 (if nG a b&&UG x y then 0 else 1)):=by
 refine .en func150 ntmps150 fun St c cs hK=> ?_;by_cases c1:a<=b/\ -9<=a/\b<=9
 ·by_cases c2:b-a≥3
  ·have e:(nG a b&&UG x y)=false:=by unfold nG;rw[decide_eq_false oM];rfl
   refine U2 ?_;refine .bo fun b1=> ?_;refine U7 ?_;refine .cl (fun H hs=> bA.is (.bool true) (by rewrite [decide_eq_true c1];rfl) (YB M H a b (-9) 9)) ?_;refine R8 ?_;refine .rt hK func150 results150 [_] ?_;exact fun H' hs=> ⟨hs.base,by rw[e];rfl⟩
  ·by_cases c3:x<=y/\ -12<=x/\y<=12
   ·have e:(nG a b&&UG x y)=true:=by unfold nG UG;rw[decide_eq_true oM,decide_eq_true oM];rfl
    refine U2 ?_;refine .bo fun b1=> ?_;refine U7 ?_;refine .cl (fun H hs=> bA.is (.bool true) (by rewrite [decide_eq_true c1];rfl) (YB M H a b (-9) 9)) ?_;refine QE ?_;refine .cl (fun H hs=> bA.is (.bool true) (by rewrite [decide_eq_true c3];rfl) (YB M H x y (-12) 12)) ?_;refine U9 ?_;refine .rt hK func150 results150 [_] ?_;exact fun H' hs=> ⟨hs.base,by rw[e];rfl⟩
   ·have e:(nG a b&&UG x y)=false:=by unfold UG;rw[decide_eq_false (p:= -12<=x/\x<=y/\y<=12/\y-x<25) oM];simp
    refine U2 ?_;refine .bo fun b1=> ?_;refine U7 ?_;refine .cl (fun H hs=> bA.is (.bool true) (by rewrite [decide_eq_true c1];rfl) (YB M H a b (-9) 9)) ?_;refine QE ?_;refine .cl (fun H hs=> bA.is (.bool false) (by rewrite [decide_eq_false c3];rfl) (YB M H x y (-12) 12)) ?_;refine U8 ?_;refine .rt hK func150 results150 [_] ?_;exact fun H' hs=> ⟨hs.base,by rw[e];rfl⟩
 ·have e:(nG a b&&UG x y)=false:=by unfold nG;rw[decide_eq_false oM];rfl
  refine U2 ?_;refine .bo fun b1=> ?_;refine U7 ?_;refine .cl (fun H hs=> bA.is (.bool false) (by rewrite [decide_eq_false c1];rfl) (YB M H a b (-9) 9)) ?_;refine R8 ?_;refine .rt hK func150 results150 [_] ?_;exact fun H' hs=> ⟨hs.base,by rw[e];rfl⟩
theorem Lk.ok_eq(k:Lk):k.ok=(k.sends&&k.reads&&(k.HY&&k.mN)):=by
 simp[Lk.ok,wI,Lk.O3,Bool.and_assoc]
theorem pR(k:Lk):bA M 62 #[k.val] H (fun v H'=> H.le H'/\v=.int .i64 (if k.ok then 0 else 1)):=by
 refine .en func62 ntmps62 fun St c cs hK=> ?_;cases h1:k.sends with
 | false=>
  have e:k.ok=false:=by rw[Lk.ok_eq,h1];rfl
  refine U2 ?_;refine .bo fun b1=> ?_;refine U7 ?_;refine .cl (fun H hs=> bA.mono (sG M H k.s0 k.s1) (Q':=fun v H'=> H.le H'/\v=.bool false) (by rintro v H' ⟨h2,h3⟩;exact⟨h2,h3.trans (congrArg Value.bool h1)⟩)) ?_;refine CG ?_;refine .rt hK func62 results62 [_] ?_;exact fun H' hs=> ⟨hs.base,by rw[e];rfl⟩
 | true=>
  cases h2:k.reads with
  | false=>
   have e:k.ok=false:=by rw[Lk.ok_eq,h1,h2];rfl
   refine U2 ?_;refine .bo fun b1=> ?_;refine U7 ?_;refine .cl (fun H hs=> bA.mono (sG M H k.s0 k.s1) (Q':=fun v H'=> H.le H'/\v=.bool true) (by rintro v H' ⟨h2,h3⟩;exact⟨h2,h3.trans (congrArg Value.bool h1)⟩)) ?_;refine U4 ?_;refine .cl (fun H hs=> bA.mono (sG M H k.r0 k.r1) (Q':=fun v H'=> H.le H'/\v=.bool false) (by rintro v H' ⟨h4,h3⟩;exact⟨h4,h3.trans (congrArg Value.bool h2)⟩)) ?_;refine U8 ?_;refine .rt hK func62 results62 [_] ?_;exact fun H' hs=> ⟨hs.base,by rw[e];rfl⟩
  | true=>
   have e:k.ok=(nG k.l0 k.l1&&UG k.m0 k.m1):=by rw[Lk.ok_eq,h1,h2];rfl
   refine U2 ?_;refine .bo fun b1=> ?_;refine U7 ?_;refine .cl (fun H hs=> bA.mono (sG M H k.s0 k.s1) (Q':=fun v H'=> H.le H'/\v=.bool true) (by rintro v H' ⟨h2,h3⟩;exact⟨h2,h3.trans (congrArg Value.bool h1)⟩)) ?_;refine U4 ?_;refine .cl (fun H hs=> bA.mono (sG M H k.r0 k.r1) (Q':=fun v H'=> H.le H'/\v=.bool true) (by rintro v H' ⟨h4,h3⟩;exact⟨h4,h3.trans (congrArg Value.bool h2)⟩)) ?_;refine U9 ?_;refine .cl (fun H hs=> B0 M H k.l0 k.l1 k.m0 k.m1) ?_;refine U2 ?_;refine .rt hK func62 results62 [_] ?_;exact fun H' hs=> ⟨hs.base,by rw[e];rfl⟩
theorem X1(k:Lk):bA M 17 #[k.val] H (fun v H'=> H.le H'/\v=.bool k.ok):=by
 refine .en func17 ntmps17 fun St c cs hK=> ?_;cases h:k.ok with
 | true=>
  refine U2 ?_;refine .bo fun b1=> ?_;refine U5 ?_;refine .cl (fun H hs=> bA.is (.int .i64 0) (by rewrite [h];rfl) (pR M H k)) ?_;refine U3 ?_;refine .rt hK func17 results17 [_] ?_;exact fun H' hs=> ⟨hs.base,by rw[h];rfl⟩
 | false=>
  refine U2 ?_;refine .bo fun b1=> ?_;refine U5 ?_;refine .cl (fun H hs=> bA.is (.int .i64 1) (by rewrite [h];rfl) (pR M H k)) ?_;refine U3 ?_;refine .rt hK func17 results17 [_] ?_;exact fun H' hs=> ⟨hs.base,by rw[h];rfl⟩
end
section
variable(M:Md prog)(H:View)
end
section
variable(M:Md prog)(H:View)
end
section
variable(M:Md prog)(H:View)
end
section
variable(M:Md prog)(H:View)
end
section
variable(M:Md prog)(H:View)
theorem Y1(A:Option Addr)(l:List Int)(n ca:Nat)(x:Int)(hn:n=l.length)(h6:n<=1000)(hA:dO H A l):bA M 28 #[.slice A n ca,.int .i64 x] H (fun v H'=> H.le H'/\v=.bool (decide (x∈l))):=by
 refine .en func28 ntmps28 fun St c cs hK=> ?_;refine lD ?_;refine Tc.db (Tc.tA (σ:= { j:Nat//j<=n/\∀i,i<j->l[i]?.getD 0≠x }) (fun j=> ([(0,.slice A n ca),(1,.int .i64 x),(4,.bool false),(5,.int .i64 (j.1:Nat))],[])) (fun j=> n-j.1) ?_ ⟨0,oM,oM⟩);rintro⟨j,hj,PC⟩ ih;show Tc M St _ _ _ _ [(0,.slice A n ca),(1,.int .i64 x),(4,.bool false),(5,.int .i64 (j:Nat))] [] _ _;by_cases c1:j=n
 ·have hx:¬x∈l:=fun hm=> by
   obtain⟨i,hi,he⟩:=List.mem_iff_getElem.1 hm;have:=PC i oM;rw[List.getElem?_eq_getElem hi] at this;exact this he
  subst c1;refine QE ?_;refine .rt hK func28 results28 [_] ?_;exact fun H' hs=> ⟨hs.base,by rw[decide_eq_false hx];rfl⟩
 ·have c2:j<n:=by omega
  rcases hA with hA|⟨a1,a2,a3,a4,a5,a6,rfl,a7,a8⟩
  ·rw[hA] at hn;simp at hn;omega
  have f1:=a8 j oM;by_cases c3:l[j]?.getD 0=x
  ·have hx:x∈l:=by
    rw[List.getElem?_eq_getElem (show j<l.length by omega)] at c3;rw[<-c3];exact List.getElem_mem _
   refine U26 ?_;refine .rt hK func28 results28 [_] ?_;exact fun H' hs=> ⟨hs.base,by rw[decide_eq_true hx];rfl⟩
  ·refine U29 ?_;exact Tc.db (ih ⟨j+1,oM,by intro i hi;rcases Nat.lt_succ_iff_lt_or_eq.1 hi with h|rfl;exact PC i h;exact c3⟩ (by simp only;omega))
end
end Go.Proofs.YtldmfjcgjdchcaaGreatDoor.Sg
namespace Go.Proofs.YtldmfjcgjdchcaaGreatDoor.Sg
open Go.RL Go.Proofs.Tryz Go.Conc
set_option maxRecDepth 10000
set_option maxHeartbeats 4000000
section
end
section
end
end Go.Proofs.YtldmfjcgjdchcaaGreatDoor.Sg
namespace Go.Proofs.YtldmfjcgjdchcaaGreatDoor.Sg
open Go.RL Go.Proofs.Tryz
set_option maxRecDepth 10000
set_option maxHeartbeats 4000000
section
variable(M:Md prog)(H:View)
end
theorem aBH {g:Gl 3 1}{l:List Nat}(h:g.l=QH l):g.n=l.length:=by
 have:=g.hl;rw[h] at this;unfold QH at this;rw[List.length_map] at this;omega
def tI(H:View)(A:Option Addr)(l:List Int):Prop:=
 (∀x∈l,0<=x/\x<65536)/\(l= []\/∃ab ao f gs gt gz,A=some ⟨ab,ao,none⟩/\H ab=some (f,.cells ⟨gs⟩ gt gz)/\∀j:Nat,j<l.length->gD false 1 gs (ao+(j:Int).toNat*1)=some (.int .u16 (l[j]?.getD 0)))
theorem tI.le {H H':View}{A:Option Addr}{l:List Int}(h:tI H A l)(k:H.le H'):tI H' A l:=by
 obtain⟨h0,h⟩:=h;refine⟨h0,?_⟩;rcases h with h|⟨ab,ao,f,gs,gt,gz,h1,h2,h3⟩
 ·exact .inl h
 ·exact .inr ⟨ab,ao,f,gs,gt,gz,h1,k _ _ h2,h3⟩
theorem tI.in {H:View}{A:Option Addr}{l:List Int}(h:tI H A l)(j:Nat):0<=l[j]?.getD 0/\l[j]?.getD 0<65536:=by
 by_cases hj:j<l.length
 ·rw[List.getElem?_eq_getElem hj];exact h.1 _ (List.getElem_mem hj)
 ·rw[List.getElem?_eq_none oM];decide
def xL(a b n:Int):Int:=a+n%(b-a+1)
theorem WN {a b n:Int}(h:a<=b):a<=xL a b n/\xL a b n<=b:=by
 unfold xL;have h1:=Int.emod_nonneg n (show b-a+1≠0 by omega);have h2:=Int.emod_lt_of_pos n (show 0<b-a+1 by omega);omega
section
variable(M:Md prog)(H:View)
theorem IK(A:Option Addr)(l:List Int)(n ca:Nat)(k:Int)(j:Nat)(hj:k=(j:Nat))(hn:n=l.length)(hA:tI H A l):bA M 81 #[.slice A n ca,.int .i64 k] H (fun v H'=> H.le H'/\v=.int .i64 (l[j]?.getD 0)):=by
 refine .en func81 ntmps81 fun St c cs hK=> ?_;have hx:=hA.in j;by_cases c1:j<n
 ·rcases hA.2 with hA|⟨a1,a2,a3,a4,a5,a6,rfl,a7,a8⟩
  ·rw[hA] at hn;simp at hn;omega
  have f1:gD false 1 a4 (a2+k.toNat*1)=some (.int .u16 (l[j]?.getD 0)):=by rw[hj];exact a8 j oM
  have hw:IntKind.i64.wrap (l[j]?.getD 0)=l[j]?.getD 0:=wrap64 oM oM;refine ZX ?_;refine .rt hK func81 results81 [_] ?_;exact okB
 ·have e:l[j]?.getD 0=0:=by rw[List.getElem?_eq_none oM];rfl
  refine QT ?_;refine .rt hK func81 results81 [_] ?_;exact fun H' hs=> ⟨hs.base,by rw[e];rfl⟩
theorem GR(a b n:Int)(OQ:a<=b)(ha: -100000<=a)(hb:b<=100000)(hn:0<=n/\n<65536):bA M 80 #[FD a b,.int .i64 n] H (fun v H'=> H.le H'/\v=.int .i64 (xL a b n)):=by
 refine .en func80 ntmps80 fun St c cs hK=> ?_;have h1:=Int.emod_nonneg n (show b-a+1≠0 by omega);have h2:=Int.emod_lt_of_pos n (show 0<b-a+1 by omega);refine U2 ?_;refine .bo fun b2=> ?_;refine U3 ?_;refine Tc.dr [] [] mixed rfl ?_;refine V9 0 ?_;refine .q 9 rfl (.it (zz:=rem_in oM oM)) ?_;refine V2 10 ?_;refine .dn ?_;refine .rt hK func80 results80 [_] ?_;exact okB
theorem oK(code p:Nat)(h1:code<32)(h2:p<7):bA M 163 #[.int .i64 code,.int .i64 (p:Nat)] H (fun v H'=> H.le H'/\v=.int .i64 (GD code p:Nat)):=by
 refine .en func163 ntmps163 fun St c cs hK=> ?_;by_cases c2:p=6
 ·subst c2;refine YP ?_;refine .rt hK func163 results163 [_] ?_;exact okB
 ·by_cases c1:p=0
  ·subst c1;refine U27 ?_;refine .rt hK func163 results163 [_] ?_;exact okB
  ·have hb:=eL code h1 p h2 c1 c2;have g1:DC .shr .i64 (code:Int) ((p:Int)-1)=some (.int .i64 (Int.fdiv (code:Int) (2 ^ (min ((p:Int)-1).toNat 64)))):=rfl;have g2:pA .and .i64 (Int.fdiv (code:Int) (2 ^ (min ((p:Int)-1).toNat 64))) 1=some (.int .i64 (GD code p:Nat)):=congrArg (fun x=> some (Value.int .i64 x)) hb;refine U29 ?_;refine .x .sf ?_;refine U3 ?_;refine .rt hK func163 results163 [_] ?_;exact okB
theorem zO(code p:Nat)(h1:code<32)(h2:p<7):bA M 163 #[.int .i64 code,.int .i64 ((p:Int)-1)] H (fun v H'=> H.le H'/\v=.int .i64 (pJ code p:Nat)):=by
 cases p with
 | zero=>
  refine .en func163 ntmps163 fun St c cs hK=> ?_;refine YP ?_;refine .rt hK func163 results163 [_] ?_;exact okB
 | succ q=>
  rw[show((q+1:Nat):Int)-1=(q:Nat) by omega];exact oK M H code q h1 oM
theorem aZ(code:Nat)(hc:code<32):bA M 82 #[.int .i64 code] H (fun v H'=> H.le H'/\∃g:Gl 3 1,v=g.val/\g.l=QH (iA code 7)/\∀x∈g.bl,H' x.1=some x.2/\H x.1=none):=by
 refine .en func82 ntmps82 fun St c cs hK=> ?_;refine QE ?_;refine Tc.db (Tc.tA (σ:= { s:Nat×Gl 3 1//s.1<=7/\s.2.l=QH (iA code s.1) })
  (fun s=> ([(0,.int .i64 code),(3,s.1.2.val),(4,.int .i64 (s.1.1:Nat))],s.1.2.bl)) (fun s=> 7-s.1.1) ?_ ⟨(0,Gl.nil 3 1),by simp,rfl⟩)
 rintro⟨⟨p,g⟩,g1,g2⟩ ih;simp only at g1 g2;have hlen:g.n<=7:=by
  have h1:=g.hl;have h2:=yL code p;rw[g2] at h1;unfold QH at h1;rw[List.length_map] at h1;omega
 show Tc M St _ _ _ _ [(0,.int .i64 code),(3,g.val),(4,.int .i64 (p:Nat))] g.bl _ _;by_cases c7:p=7
 ·subst c7;refine CG ?_;refine .rt hK func82 results82 [_] ?_;exact fun H' hs=> ⟨hs.base,g,rfl,g2,fun x hx=> ⟨hs.at_ x hx,hs.out x hx⟩⟩
 ·have c8:p<7:=by omega
  refine PE ?_;by_cases he:GD code p=pJ code p
  ·refine U3 ?_;refine .cl (fun H hs=> oK M H code p hc c8) ?_;refine U3 ?_;refine .cl (fun H hs=> zO M H code p hc c8) ?_;refine lD ?_;exact Tc.db (ih ⟨(p+1,g),by simp only;omega,by simp only[iA,he,if_true];exact g2⟩ (by simp only;omega))
  ·refine U3 ?_;refine .cl (fun H hs=> oK M H code p hc c8) ?_;refine U3 ?_;refine .cl (fun H hs=> zO M H code p hc c8) ?_;refine U6 ?_;refine .e (.bs (zz:=fun bs=> ?_));refine .e (Or.append (E:=en) 1 rfl rfl rfl rfl rfl rfl rfl rfl rfl rfl rfl rfl rfl rfl rfl (fun H hs=> OA.of (hs.get (i:=0) rfl) (Nat.le_of_ble_eq_true rfl)) rfl oM rfl dE (fun g' hn hl=> ?_));refine U8 ?_;exact Tc.db (ih ⟨(p+1,g'),by simp only;omega,by simp only[iA,he,if_false];rw[hl,g2];unfold QH;rw[List.map_append];rfl⟩ (by simp only;omega))
def Lk.qN(k:Lk)(l:List Int):Int:=xL k.s0 k.s1 (l[0]?.getD 0)
def Lk.pN(k:Lk)(l:List Int):Int:=xL k.r0 k.r1 (l[1]?.getD 0)
def Lk.oN(k:Lk)(l:List Int):Int:=xL k.l0 k.l1 (l[2]?.getD 0)
def Lk.GF(k:Lk)(l:List Int)(n:Nat):List Int:=(List.range n).map fun i=> xL k.m0 k.m1 (l[3+i]?.getD 0)
theorem Lk.fV(k:Lk)(l:List Int)(n:Nat):k.GF l (n+1)=k.GF l n++[xL k.m0 k.m1 (l[3+n]?.getD 0)]:=by
 unfold Lk.GF;rw[List.range_succ,List.map_append];rfl
theorem aBh(k:Lk)(hk:k.ok=true)(code:Nat)(hc:code<32)(A:Option Addr)(l:List Int)(n ca:Nat)(hn:n=l.length)(hA:tI H A l):
  bA M 26 #[k.val,.int .i64 code,.slice A n ca] H (fun v H'=> H.le H'/\∃g:Gl 3 1,v=fE (k.qN l) (k.pN l) (k.oN l) g/\g.l=sA (k.GF l (iA code 7).length)/\∀x∈g.bl,H' x.1=some x.2/\H x.1=none):=by
 obtain⟨hks,A5,W9,hkm⟩:=Lk.kP hk;have hp6:=(pE code hc).2.1;refine .en func26 ntmps26 fun St c cs hK=> ?_;refine U2 ?_;refine .bo fun b3=> ?_;refine .al fun b6=> ?_;refine U2 ?_;refine Tc.dr [18] [] mixed rfl ?_;refine V3 0 ?_;refine .z 3 rfl (qA.tk fun H hs=> IK M H A l n ca 0 0 rfl hn (hA.le hs.base)) ?_;refine .z 4 rfl (qA.tk fun H hs=> GR M H k.s0 k.s1 (l[0]?.getD 0) oM oM oM (hA.in 0)) ?_;refine V3 5 ?_;refine .z 8 rfl (qA.tk fun H hs=> IK M H A l n ca 1 1 rfl hn (hA.le hs.base)) ?_;refine .z 9 rfl (qA.tk fun H hs=> GR M H k.r0 k.r1 (l[1]?.getD 0) oM oM oM (hA.in 1)) ?_;refine V4 10 ?_;refine .z 14 rfl (qA.tk fun H hs=> IK M H A l n ca 2 2 rfl hn (hA.le hs.base)) ?_;refine .z 15 rfl (qA.tk fun H hs=> GR M H k.l0 k.l1 (l[2]?.getD 0) oM oM oM (hA.in 2)) ?_;refine .nn 16 ?_;refine .ea 17 rfl (.al (zz:=fun b7=> ⟨S2.mk sL (.inr sL),?_⟩));refine .e 18 0 ?_;refine .dn ?_;refine U6 ?_;refine Tc.db (Tc.tA (σ:= { s:Nat×Gl 3 1//s.1<=(iA code 7).length/\s.2.l=sA (k.GF l s.1) })
  (fun s=> ([(1,.int .i64 code),(2,.slice A n ca),(3,.pointer (some ⟨b3,0,none⟩)),(6,.pointer (some ⟨b6,0,none⟩)),(7,.pointer (some ⟨b7,0,none⟩)),(8,.int .i64 (s.1.1:Nat))],
   (b7,true,.cells ⟨[.int .i64 (k.qN l),.int .i64 (k.pN l),.int .i64 (k.oN l),s.1.2.val]⟩ 74 (0,0))::(b6,true,.cells ⟨[.int .i64 0,.int .i64 0,.int .i64 0,.slice none 0 0]⟩ 74 (0,0))::(b3,true,.cells ⟨k.val.cells.toList⟩ 49 (0,0))::s.1.2.bl)) (fun s=> (iA code 7).length-s.1.1) ?_ ⟨(0,Gl.nil 3 1),Nat.zero_le _,rfl⟩)
 rintro⟨⟨i,g⟩,g1,g2⟩ ih;simp only at g1 g2;have nL:g.n=i:=by
  have h1:=g.hl;rw[g2,HA] at h1;unfold Lk.GF at h1;rw[List.length_map,List.length_range] at h1;omega
 show Tc M St _ _ _ _ [(1,.int .i64 code),(2,.slice A n ca),(3,.pointer (some ⟨b3,0,none⟩)),(6,.pointer (some ⟨b6,0,none⟩)),(7,.pointer (some ⟨b7,0,none⟩)),(8,.int .i64 (i:Nat))]
   ((b7,true,.cells ⟨[.int .i64 (k.qN l),.int .i64 (k.pN l),.int .i64 (k.oN l),g.val]⟩ 74 (0,0))::(b6,true,.cells ⟨[.int .i64 0,.int .i64 0,.int .i64 0,.slice none 0 0]⟩ 74 (0,0))::(b3,true,.cells ⟨k.val.cells.toList⟩ 49 (0,0))::g.bl) _ _
 refine U5 ?_;refine .e (Or.ZA Gl.val Gl.bl (fun ge:Gl 3 1=> ge.l=QH (iA code 7)) rfl rfl rfl rfl rfl dE OC (fun H hs=> .h (aZ M H code hc)) (fun ge pS=> ?_));have TW:=aBH pS;by_cases c1:i=(iA code 7).length
 ·subst c1;refine lD ?_;refine .rt hK func26 results26 [_] ?_;exact fun H' hs=> ⟨hs.base,g,rfl,g2,fun x hx=> ⟨hs.at_ x (by simp[hx]),hs.out x (by simp[hx])⟩⟩
 ·have c2:i<(iA code 7).length:=by omega
  refine U3 ?_;refine Tc.rC (R':= [(1,.int .i64 code),(2,.slice A n ca),(3,.pointer (some ⟨b3,0,none⟩)),(6,.pointer (some ⟨b6,0,none⟩)),(7,.pointer (some ⟨b7,0,none⟩)),(8,.int .i64 (i:Nat)),(30,.bool true)]) (L':=(b7,true,.cells ⟨[.int .i64 (k.qN l),.int .i64 (k.pN l),.int .i64 (k.oN l),g.val]⟩ 74 (0,0))::(b6,true,.cells ⟨[.int .i64 0,.int .i64 0,.int .i64 0,.slice none 0 0]⟩ 74 (0,0))::(b3,true,.cells ⟨k.val.cells.toList⟩ 49 (0,0))::g.bl) ?_ ⟨rfl,rfl,rfl,rfl,rfl,rfl,rfl,trivial⟩ (List.sublist_append_left _ _);refine U4 ?_;refine Tc.drT [11,13] [] [0] 3 mixed rfl ?_;refine .oo 0 ?_;refine .oo 1 ?_;refine .oo 2 ?_;refine .oo 3 ?_;refine .oo 4 ?_;refine .oo 5 ?_;refine .oo 6 ?_;refine .oo 7 ?_;refine Ta.IX 8 kR rfl rfl dE rfl rfl (qA.tk fun H hs=> IK M H A l n ca (3+(i:Int)) (3+i) oM hn (hA.le hs.base)) ?_;refine Ta.IX 9 kR rfl rfl dE rfl rfl (qA.tk fun H hs=> GR M H k.m0 k.m1 (l[3+i]?.getD 0) oM oM oM (hA.in (3+i))) ?_;refine .ea 10 rfl (.bs (zz:=fun bs=> ⟨S3.mk sL (.inr sL),?_⟩));refine .ea 11 rfl (Or.append (E:=en) 4 rfl rfl rfl rfl rfl rfl rfl rfl rfl rfl rfl rfl rfl rfl rfl (fun H hs=> OA.of (hs.get (i:=0) rfl) (Nat.le_of_ble_eq_true rfl)) rfl oM rfl dE (fun g' rM hl=> ⟨S3.mk sL (.inl kR),?_⟩));refine .ow 12 ?_;refine .ea 13 rfl (.st 1 (zz:=⟨S3.mk sL (.inl kR),?_⟩));refine .dn ?_;refine U6 ?_;exact Tc.db (ih ⟨(i+1,g'),by simp only;omega,by simp only;rw[hl,g2,Lk.fV];unfold sA;rw[List.map_append];rfl⟩ (by simp only;omega))
theorem Lk.pX(k:Lk)(l:List Int)(n:Nat):(k.GF l n).length=n:=by simp[Lk.GF]
end
set_option maxHeartbeats 8000000
theorem Lk.WH {k:Lk}{c:Nat}:k.YC c=none<->∀s∈k.jT c,s.YC (EB c)=none:=by
 unfold Lk.YC;rw[List.findSome?_eq_none_iff]
theorem lN(pace after:Int):∀(f:Nat) (n j:Int),n<=j->j<oC pace after f n->(2*j+1)*pace<after
 | 0,n,j,h1,h2=> by simp[oC] at h2;omega
 | f + 1,n,j,h1,h2=> by
  unfold oC at h2;split at h2
  ·rename_i HB
   by_cases e:j=n
   ·subst e;exact HB
   ·exact lN pace after f (n+1) j oM h2
  ·omega
theorem NH {pace after j:Int}(h0:0<=j)(h:j<bB pace after):(2*j+1)*pace<after:=lN pace after 7 0 j h0 h
theorem SU {pace after:Int}(hp:0<pace){m:Int}(h0:0<=m)(h7:m<7):m<bB pace after<->(2*m+1)*pace<after:=by
 constructor
 ·exact NH h0
 ·intro h;obtain⟨h1,h2,h3⟩:=nC pace after;by_cases e:m<bB pace after
  ·exact e
  ·have h4:=h3 oM;have h5:(2*bB pace after+1)*pace<=(2*m+1)*pace:=Int.mul_le_mul_of_nonneg_right oM oM;omega
theorem NS {pace a b:Int}(hp:0<pace)(h:a<=b):bB pace a<=bB pace b:=by
 obtain⟨h1,h2,_⟩:=nC pace a;obtain⟨g1,g2,_⟩:=nC pace b;by_cases e:bB pace a<=bB pace b
 ·exact e
 ·have h4:=NH (pace:=pace) (after:=a) g1 oM;have:=(SU (after:=b) hp g1 oM).2 oM;omega
theorem gR {read mt after:Int}(hr:0<read):∀(f:Nat) (n m:Int),n<=m->m<=mt->(mt+1-n).toNat<=f->∃o∈KF read mt after f n,o.1=bB read (after+m)/\n<=o.2/\o.2<=m
 | 0,n,m,h1,h2,h3=> by omega
 | f + 1,n,m,h1,h2,h3=> by
  unfold KF;rw[if_pos oM];by_cases e:bB read (after+m)=bB read (after+n)
  ·exact⟨_,List.mem_cons_self,e.symm,Int.le_refl _,h1⟩
  ·have h4:=NS (pace:=read) hr (show after+n<=after+m by omega);have h5:=nC read (after+n);have h6:=nC read (after+m);rw[if_neg oM];have h7:=h5.2.2 oM;have h8:=NH (pace:=read) (after:=after+m) h5.1 oM;obtain⟨o,ho,h9,h10,h11⟩:=gR (after:=after) hr f ((2*bB read (after+n)+1)*read+1-after) m oM h2 oM;exact⟨o,List.mem_cons_of_mem _ ho,h9,oM,h11⟩
theorem dV {read mt after:Int}:∀(f:Nat) (n:Int) (o:Int×Int),o∈KF read mt after f n->n<=o.2/\o.2<=mt/\o.1=bB read (after+o.2)
 | 0,n,o,h=> by cases h
 | f + 1,n,o,h=> by
  unfold KF at h;split at h
  ·rename_i hn
   rcases List.mem_cons.1 h with rfl|h
   ·exact⟨Int.le_refl _,hn,rfl⟩
   ·split at h
    ·cases h
    ·rename_i h7
     have h5:=nC read (after+n);obtain⟨h1,h2,h3⟩:=dV f _ o h;have:=h5.2.2 h7;exact⟨oM,h2,h3⟩
  ·cases h
def TA.vM(s:TA)(i:Nat)(m:Int):Int:=if i=0 then 0 else bB s.read (s.after (s.ps[i]?.getD 0) i+m)
def TA.may(s:TA)(i:Nat)(m:Int):Prop:=if i=0 then m=s.first else s.mf<=m/\m<=s.mt
theorem TA.eV {s:TA}(hr:0<s.read){i:Nat}{m:Int}(h:s.may i m):∃o∈s.opts (s.ps[i]?.getD 0) i,o.1=s.vM i m/\o.2<=m:=by
 unfold TA.may at h;unfold TA.opts TA.vM;split at h
 ·rename_i hi
  subst hi;rw[if_pos rfl,if_pos rfl];exact⟨_,List.mem_cons_self,rfl,oM⟩
 ·rename_i hi
  rw[if_neg hi,if_neg hi];obtain⟨o,h1,h2,h3,h4⟩:=gR (read:=s.read) (mt:=s.mt) (after:=s.after (s.ps[i]?.getD 0) i) hr (s.mt+1-s.mf).toNat s.mf m h.1 h.2 (Nat.le_refl _);exact⟨o,h1,h2,h4⟩
theorem TA.KY {s:TA}{i:Nat}{o:Int×Int}(h:o∈s.opts (s.ps[i]?.getD 0) i):s.may i o.2/\o.1=s.vM i o.2:=by
 unfold TA.opts at h;unfold TA.may TA.vM;split at h
 ·rename_i hi
  simp only[List.mem_singleton] at h;subst h;subst hi;exact⟨by simp,by simp⟩
 ·rename_i hi
  obtain⟨h1,h2,h3⟩:=dV _ _ _ h;rw[if_neg hi,if_neg hi];exact⟨⟨h1,h2⟩,h3⟩
def TA.WC(s:TA)(i v:Nat):List Int->Nat
 | []=> v
 | m::l=> s.WC (i+1) (yD v (s.vM i m).toNat) l
def TA.ZE(s:TA)(i:Nat):List Int->Prop
 | []=> True
 | m::l=> s.may i m/\s.ZE (i+1) l
def TA.view(s:TA)(mv:List Int):Nat:=s.WC 0 127 mv
theorem TA.YO {s:TA}(hr:0<s.read):∀(l:List Int) (i v:Nat) (pre:List Int),s.ZE i l->∃x∈s.leaves l.length i v pre,x.1=s.WC i v l
 | [],i,v,pre,_=> ⟨(v,pre),by simp[TA.leaves],rfl⟩
 | m ::l,i,v,pre,h=> by
  obtain⟨o,h1,h2,_⟩:=TA.eV hr h.1;obtain⟨x,h3,h4⟩:=TA.YO hr l (i+1) (yD v o.1.toNat) (pre++[o.2]) h.2;refine⟨x,?_,?_⟩
  ·simp only[List.length_cons,TA.leaves];exact List.mem_flatMap.2 ⟨o,h1,h3⟩
  ·rw[h4,h2];rfl
theorem TA.YQ {s:TA}:∀(d i v:Nat) (pre:List Int) (x:Nat×List Int),x∈s.leaves d i v pre->∃l:List Int,l.length=d/\x.2=pre++l/\s.ZE i l/\x.1=s.WC i v l
 | 0,i,v,pre,x,h=> by
  simp only[TA.leaves,List.mem_singleton] at h;subst h;exact⟨[],rfl,by simp,trivial,rfl⟩
 | d+1,i,v,pre,x,h=> by
  unfold TA.leaves at h;obtain⟨o,h1,h2⟩:=List.mem_flatMap.1 h;obtain⟨h3,h4⟩:=TA.KY h1;obtain⟨l,h5,h6,h7,h8⟩:=TA.YQ d (i+1) _ _ x h2;refine⟨o.2::l,by simp[h5],by rw[h6];simp,⟨h3,h7⟩,?_⟩;rw[h8,h4];rfl
theorem TA.X8 {s:TA}(hr:0<s.read){v:Nat}:(∃x∈s.all,x.1=v)<->∃mv:List Int,mv.length=s.ps.length/\s.ZE 0 mv/\s.view mv=v:=by
 constructor
 ·rintro⟨x,hx,rfl⟩;obtain⟨l,h1,h2,h3,h4⟩:=TA.YQ _ _ _ _ _ hx;exact⟨l,h1,h3,h4.symm⟩
 ·rintro⟨mv,h1,h2,rfl⟩;obtain⟨x,h3,h4⟩:=TA.YO hr mv 0 127 [] h2;exact⟨x,by unfold TA.all;rw[<-h1];exact h3,h4⟩
theorem F6 {os:List (Int×Int)}{R:Nat->Bool}{w:Nat}:nxR os R 128 0 w=true<->∃u,u<128/\R u=true/\∃o∈os,toV u o=w:=by
 unfold nxR;simp only[List.take_zero,List.any_nil,Bool.false_and,Bool.or_false,List.any_eq_true,List.mem_range,Bool.and_eq_true,beq_iff_eq];constructor
 ·rintro⟨u,h1,⟨o,h2,h3⟩,h4⟩;exact⟨u,h1,h4,o,h2,h3⟩
 ·rintro⟨u,h1,h4,o,h2,h3⟩;exact⟨u,h1,⟨o,h2,h3⟩,h4⟩
theorem TA.lF(s:TA):∀(l:List Int) (i v:Nat) (m:Int),s.WC i v (l++[m])=yD (s.WC i v l) (s.vM (i+l.length) m).toNat
 | [],i,v,m=> rfl
 | a::l,i,v,m=> by
  show s.WC (i+1) _ (l++[m])=_;rw[TA.lF s l];simp only[List.length_cons];rw[show i+1+l.length=i+(l.length+1) by omega];rfl
theorem TA.QI(s:TA):∀(l:List Int) (i:Nat) (m:Int),s.ZE i (l++[m])<->s.ZE i l/\s.may (i+l.length) m
 | [],i,m=> by simp[TA.ZE]
 | a::l,i,m=> by
  simp only[List.cons_append,TA.ZE,List.length_cons];rw[TA.QI s l,show i+1+l.length=i+(l.length+1) by omega,and_assoc]
theorem TA.aAi {s:TA}(i:Nat)(m:Int):0<=s.vM i m/\s.vM i m<=7:=by
 unfold TA.vM;split
 ·omega
 ·have:=nC s.read (s.after (s.ps[i]?.getD 0) i+m);omega
theorem TA.zF(s:TA):∀(l:List Int) (i v:Nat),v<128->s.WC i v l<128
 | [],_,_,h=> h
 | m::l,i,v,h=> by
  have:=TA.aAi (s:=s) i m;exact TA.zF s l (i+1) _ (KM v h _ oM)
theorem TA.XI {s:TA}(hr:0<s.read):∀(k:Nat) (w:Nat),s.BJ k w=true<->∃mv:List Int,mv.length=k/\s.ZE 0 mv/\s.view mv=w
 | 0,w=> by
  constructor
  ·intro h;simp only[TA.BJ,beq_iff_eq] at h;exact⟨[],rfl,trivial,h.symm⟩
  ·rintro⟨mv,h1,_,h3⟩;cases List.eq_nil_of_length_eq_zero h1
   simp only[TA.BJ,beq_iff_eq];exact h3.symm
 | k + 1,w=> by
  unfold TA.BJ;rw[F6];constructor
  ·rintro⟨u,h1,h2,o,h3,h4⟩;obtain⟨mv,h5,h6,h7⟩:=(TA.XI hr k u).1 h2;obtain⟨h8,h9⟩:=TA.KY h3;refine⟨mv++[o.2],by simp[h5],(TA.QI s mv 0 o.2).2 ⟨h6,by rw[Nat.zero_add,h5];exact h8⟩,?_⟩;unfold TA.view at h7 ⊢;rw[TA.lF,h7,Nat.zero_add,h5,<-h9];exact h4
  ·rintro⟨mv,h1,h2,h3⟩;obtain⟨mv',m,rfl⟩:∃mv' m,mv=mv'++[m]:=by
    refine⟨mv.dropLast,mv.getLast (by intro e;rw[e] at h1;cases h1),?_⟩;exact(List.dropLast_concat_getLast _).symm
   simp only[List.length_append,List.length_cons,List.length_nil,Nat.zero_add,Nat.add_right_cancel_iff] at h1;obtain⟨h4,h5⟩:=(TA.QI s mv' 0 m).1 h2;rw[Nat.zero_add,h1] at h5;obtain⟨o,h6,h7,_⟩:=TA.eV hr h5;refine⟨s.view mv',TA.zF s mv' 0 127 dE,(TA.XI hr k _).2 ⟨mv',h1,h4,rfl⟩,o,h6,?_⟩;unfold TA.view at h3;rw[TA.lF,Nat.zero_add,h1,<-h7] at h3;exact h3
theorem TA.CM {s:TA}(hr:0<s.read){w:Nat}:s.reach w=true<->∃mv:List Int,mv.length=s.ps.length/\s.ZE 0 mv/\s.view mv=w:=TA.XI hr _ _
theorem TA.mR {s:TA}(hr:0<s.read){w:Nat}:s.reach w=true<->∃x∈s.all,x.1=w:=(TA.CM hr).trans (TA.X8 hr).symm
theorem TA.WH {s:TA}(hr:0<s.read){rt:Nat}:s.YC rt=none<->∀w,s.reach w=true->w=rt:=by
 unfold TA.YC;rw[Option.map_eq_none_iff,List.find?_eq_none];constructor
 ·intro h w hw;obtain⟨x,hx,rfl⟩:=(TA.mR hr).1 hw;have:=h x hx;simpa [aK] using this
 ·intro h x hx;have:=h x.1 ((TA.mR hr).2 ⟨x,hx,rfl⟩);simp[aK,this]
theorem Lk.QP {k:Lk}(hk:1<=k.r0){c:Nat}:k.YC c=none<->∀w,k.AG c w=true->w=EB c:=by
 rw[Lk.WH];have hr:∀s∈k.jT c,0<s.read:=fun s hs=> by
  obtain⟨a,r,n,f,h1,h2,h3,h4,rfl⟩:=Lk.SI.1 hs;show 0<r;omega
 unfold Lk.AG;simp only[List.any_eq_true];constructor
 ·rintro h w ⟨s,hs,hw⟩;exact(TA.WH (hr s hs)).1 (h s hs) w hw
 ·intro h s hs;exact(TA.WH (hr s hs)).2 fun w hw=> h w ⟨s,hs,hw⟩
set_option maxHeartbeats 4000000
theorem HZ(p:Nat->Bool)(k:Nat):(eI p k).length<=k:=by
 unfold eI;rw[List.length_map];have:=List.length_filter_le p (List.range k);rw[List.length_range] at this;exact this
theorem XQ {p:Nat->Bool}{k n:Nat}:(n:Int)∈eI p k<->n<k/\p n=true:=by
 unfold eI;rw[List.mem_map];constructor
 ·rintro⟨m,hm,e⟩;have e':m=n:=by exact_mod_cast e
  subst e';obtain⟨h1,h2⟩:=List.mem_filter.1 hm;exact⟨List.mem_range.1 h1,h2⟩
 ·rintro⟨h1,h2⟩;exact⟨n,List.mem_filter.2 ⟨List.mem_range.2 h1,h2⟩,rfl⟩
section
variable(M:Md prog)(H:View)
end
set_option maxHeartbeats 16000000
section
variable(M:Md prog)(H:View)
end
end Go.Proofs.YtldmfjcgjdchcaaGreatDoor.Sg
