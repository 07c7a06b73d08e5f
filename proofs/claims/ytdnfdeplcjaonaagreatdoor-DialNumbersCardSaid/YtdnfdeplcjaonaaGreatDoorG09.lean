/-
  Texts of the proofs over baudot/dial: NB NC ND DrawU NE App4 ZI ZL NF ZN PA PB PC ZO NG.
-/
import Derived.Test.YtdnfdeplcjaonaaGreatDoorG08
namespace Go.Proofs.YtdnfdeplcjaonaaGreatDoor
open Go.RL Go.Proofs.Tryz
set_option maxRecDepth 10000
set_option maxHeartbeats 8000000
theorem strs_at {H:View}{G:Option Addr}{l:List (List UInt8)}(h:StrsAt H G l.length (fun j=> l[j]?.getD [])){j:Nat}(hj:j<l.length):∃b o f gs gt gz y,G=some ⟨b,o,none⟩∧H b=some (f,.cells ⟨gs⟩ gt gz)∧l[j]? =some y∧ldL false 1 gs (o+((j:Nat):Int).toNat*1)=some (strV y):=by
 rcases h with h|⟨b,o,f,gs,gt,gz,h1,h2,h3⟩
 · omega
 · have h4:=h3 j hj;simp only[List.getElem?_eq_getElem hj,Option.getD_some] at h4;exact⟨b,o,f,gs,gt,gz,l[j],h1,h2,List.getElem?_eq_getElem hj,h4⟩
def Bk.anyHit(k:Bk)(s:List UInt8)(z:Int)(i:Nat):Bool:=((slipsL s).take i).any fun x=> decide (firstI (k.line x)=z)
theorem anyHit_succ {k:Bk}{s:List UInt8}{z:Int}{i:Nat}{x:List UInt8}(h:(slipsL s)[i]? =some x):k.anyHit s z (i+1)=(k.anyHit s z i||decide (firstI (k.line x)=z)):=by
 unfold Bk.anyHit;rw[List.take_add_one,h,List.any_append];simp
def Bk.refHit(k:Bk)(line:Nat):Nat→List Int
 | 0=> []
 | j+1=> k.refHit line j++(if k.anyHit (k.num line) (j:Nat) (slipsL (k.num line)).length=true∧j≠line then [((j:Nat):Int)] else [])
theorem refHit_le(k:Bk)(line:Nat):∀j,(k.refHit line j).length≤j
 | 0=> Nat.le_refl _
 | j+1=> by
   have:=refHit_le k line j;unfold Bk.refHit;rw[List.length_append];split <;> simp <;> omega
theorem mem_refHit {k:Bk}{line:Nat}{z:Int}:∀n,z∈k.refHit line n↔∃j,j<n∧z=((j:Nat):Int)∧k.anyHit (k.num line) (j:Nat) (slipsL (k.num line)).length=true∧j≠line
 | 0=> ⟨fun h=> (nomatch h),fun⟨j,h,_⟩=> absurd h (Nat.not_lt_zero j)⟩
 | n + 1 => by
   unfold Bk.refHit;rw[List.mem_append,mem_refHit n];constructor
   · rintro(⟨j,h1,h2⟩|h)
     · exact⟨j,by omega,h2⟩
     · split at h
       · rename_i h2
         exact⟨n,by omega,List.mem_singleton.1 h,h2⟩
       · cases h
   · rintro⟨j,h1,h2,h3,h4⟩;by_cases e:j=n
     · subst e;rw[if_pos ⟨h3,h4⟩,h2];exact .inr (List.mem_singleton.2 rfl)
     · exact .inl ⟨j,by omega,h2,h3,h4⟩
theorem refHit_asc(k:Bk)(line:Nat):∀n,(k.refHit line n).Pairwise (· < ·)
 | 0=> List.Pairwise.nil
 | n + 1=> by
   unfold Bk.refHit;refine List.pairwise_append.2 ⟨refHit_asc k line n,by split <;> simp,fun a ha b hb=> ?_⟩;split at hb
   · obtain⟨j,h1,h2,_⟩:=(mem_refHit n).1 ha;rw[List.mem_singleton.1 hb];omega
   · cases hb
theorem refHit_all {k:Bk}{line:Nat}:k.refHit line k.nl=ascI (k.hits line):=by
 refine asc_uniq (refHit_asc k line _) (ascI_asc _) fun z=> ?_;rw[mem_refHit,mem_ascI,Bk.mem_hits];unfold Bk.anyHit;rw[List.take_length];constructor
 · rintro⟨j,h1,rfl,h3,h4⟩;obtain⟨x,hx,h5⟩:=List.any_eq_true.1 h3;have h6:=of_decide_eq_true h5;cases e:k.line x with
   | none=> rw[e] at h6;have:(-1:Int)=((j:Nat):Int):=h6;omega
   | some w=>
     rw[e] at h6;have:((w:Nat):Int)=((j:Nat):Int):=h6;have:w=j:=by omega
     subst this;exact⟨x,hx,w,e,h4,rfl⟩
 · rintro⟨x,hx,j,h1,h2,rfl⟩;exact⟨j,(Bk.line_at h1).1,rfl,List.any_eq_true.2 ⟨x,hx,decide_eq_true (by rw[h1];rfl)⟩,h2⟩
theorem safe1_iff {k:Bk}{s:List UInt8}:k.safe1 s=true↔∀(i:Nat) x,(slipsL s)[i]? =some x→k.line x=none:=by
 unfold Bk.safe1;rw[List.all_eq_true];constructor
 · intro h i x hx;exact Option.isNone_iff_eq_none.1 (h x (List.mem_of_getElem? hx))
 · intro h x hx;obtain⟨i,hi,rfl⟩:=List.getElem_of_mem hx;exact Option.isNone_iff_eq_none.2 (h i _ (List.getElem?_eq_getElem hi))
theorem safeAt_iff {k:Bk}{s:List UInt8}{j:Nat}:k.safeAt s j=true↔∀(i:Nat) x,(slipsL (k.num j))[i]? =some x→begins x s=false:=by
 unfold Bk.safeAt;rw[List.all_eq_true];constructor
 · intro h i x hx;have:=h x (List.mem_of_getElem? hx);simpa using this
 · intro h x hx;obtain⟨i,hi,rfl⟩:=List.getElem_of_mem hx;rw[h i _ (List.getElem?_eq_getElem hi)];rfl
theorem slipsL_le {s:List UInt8}(hs:s.length≤1000):(slipsL s).length≤2000:=by
 have h:=slipsFrom_len s _ 0 rfl;unfold slipsL;omega
section
variable(M:Md prog)(H:View)
theorem SafeOf_c(k:Bk)(A:Option Addr)(lc:Nat)(B:Option Addr)(tc:Nat)(hk:BkAt H k A lc B tc)(ha:k.alarm=0)(s:List UInt8)(hs1:s.all dig=true)(hs2:s.length≤1000):
   CallT M 137 #[k.val A lc B tc,strV s] H (fun v H'=> H.le H'∧v=.bool (k.safe s)):=by
 obtain⟨hgg,hnl,hnt,hok⟩:=Bk.valid ha;have hL:=slipsL_le hs2;refine .en func137 ntmps137 fun St c cs hK=> ?_;refine U2 ?_;refine .bo fun b2=> ?_;refine U5 ?_;refine To.callF rfl rfl rfl rfl rfl rfl (by decide) (FnT.h (SlipsOf_c M H s hs1 hs2)) (fun v H₂ hv=> ?_);obtain⟨hle2,G,gc,rfl,hG⟩:=hv;have hlo:=fun(H':View) (h:H₂.le H') x=> LineOf_c M H' k A lc B tc (hk.rows.le (View.le_trans hle2 h)) (by omega) x;refine U8 ?_;refine Tc.db (Tc.loopInv (σ:= { j:Nat//j≤(slipsL s).length∧∀i x,i<j→(slipsL s)[i]? =some x→k.line x=none }) (fun j=> ([(1,strV s),(2,.pointer (some ⟨b2,0,none⟩)),(5,.slice G (slipsL s).length gc),(6,.int .i64 (j.1:Nat))],[(b2,true,.cells ⟨(k.val A lc B tc).cells.toList⟩ 25 (0,0))])) (fun j=> (slipsL s).length-j.1) ?_ ⟨0,Nat.zero_le _,fun i x hi=> absurd hi (Nat.not_lt_zero i)⟩);rintro⟨j,hj,hno⟩ ih;show Tc M St _ _ H₂ _ [(1,strV s),(2,.pointer (some ⟨b2,0,none⟩)),(5,.slice G (slipsL s).length gc),(6,.int .i64 (j:Nat))] [(b2,true,.cells ⟨(k.val A lc B tc).cells.toList⟩ 25 (0,0))] _ _;by_cases c1:j=(slipsL s).length
 · clear ih;have hs1t:k.safe1 s=true:=safe1_iff.2 fun i x hx=> hno i x (by rw[c1];exact(List.getElem?_eq_some_iff.1 hx).1) hx;have hsf:k.safe s=allB (k.safeAt s) k.nl:=by unfold Bk.safe;rw[hs1t,Bool.true_and]
   rw[hsf] at hK;subst c1;refine U16 ?_;refine Tc.db (Tc.loopB (σ:= { x:Nat×View//x.1≤k.nl∧H.le x.2∧∀i,i<x.1→k.safeAt s i=true }) (fun x=> (x.1.2,[(1,strV s),(2,.pointer (some ⟨b2,0,none⟩)),(7,.int .i64 (x.1.1:Nat))],[(b2,true,.cells ⟨(k.val A lc B tc).cells.toList⟩ 25 (0,0))])) (fun x=> k.nl-x.1.1) ?_ ⟨(0,H₂),Nat.zero_le _,hle2,fun i hi=> absurd hi (Nat.not_lt_zero i)⟩);rintro⟨⟨w,H₃⟩,hw,hle3,hsw⟩ ih;simp only at hw hle3 hsw;show Tc M St _ _ H₃ _ [(1,strV s),(2,.pointer (some ⟨b2,0,none⟩)),(7,.int .i64 (w:Nat))] [(b2,true,.cells ⟨(k.val A lc B tc).cells.toList⟩ 25 (0,0))] _ _;by_cases d1:w=k.nl
   · clear ih;subst d1;rw[(allB_iff _).2 hsw] at hK;refine U15 ?_;refine .rt hK func137 results137 [_] ?_;exact fun H' hs=> ⟨View.le_trans hle3 hs.base,rfl⟩
   · have d2:w<k.nl:=by omega
     obtain⟨hdw,_,hl3⟩:=Bk.isNum_of ha d2;obtain⟨_,h0|⟨ab,ao,f,gs,gt,gz,rfl,hb,hrow⟩⟩:=hk.rows
     · omega
     obtain⟨F,fc,f1,_,_⟩:=hrow w d2;have f2:ldL false 1 gs (ao+((w:Nat):Int).toNat*3+1)=some (strV (k.num w)):=ldL_cell f1 (by decide);have hb3:=hle3 _ _ hb;refine U21 ?_;refine To.callF rfl rfl rfl rfl rfl rfl (by decide) (FnT.h (SlipsOf_c M H₃ (k.num w) hdw (by omega))) (fun v H₄ hv=> ?_);obtain⟨hle4,G2,gc2,rfl,hG2⟩:=hv;have hL2:=slipsL_le (s:=k.num w) (by omega);refine U7 ?_;refine Tc.db (Tc.loopInv (σ:= { i:Nat//i≤(slipsL (k.num w)).length∧∀z x,z<i→(slipsL (k.num w))[z]? =some x→begins x s=false }) (fun i=> ([(1,strV s),(2,.pointer (some ⟨b2,0,none⟩)),(5,.slice G2 (slipsL (k.num w)).length gc2),(7,.int .i64 (w:Nat)),(8,.int .i64 (i.1:Nat))],[(b2,true,.cells ⟨(k.val (some ⟨ab,ao,none⟩) lc B tc).cells.toList⟩ 25 (0,0))])) (fun i=> (slipsL (k.num w)).length-i.1) ?_ ⟨0,Nat.zero_le _,fun z x hz=> absurd hz (Nat.not_lt_zero z)⟩);rintro⟨i,hi,hni⟩ ih2;show Tc M St _ _ H₄ _ [(1,strV s),(2,.pointer (some ⟨b2,0,none⟩)),(5,.slice G2 (slipsL (k.num w)).length gc2),(7,.int .i64 (w:Nat)),(8,.int .i64 (i:Nat))] [(b2,true,.cells ⟨(k.val (some ⟨ab,ao,none⟩) lc B tc).cells.toList⟩ 25 (0,0))] _ _;by_cases e1:i=(slipsL (k.num w)).length
     · clear ih2;have hsa:k.safeAt s w=true:=safeAt_iff.2 fun z x hx=> hni z x (by rw[e1];exact(List.getElem?_eq_some_iff.1 hx).1) hx;subst e1;refine U16 ?_;exact Tc.db (ih ⟨(w+1,H₄),by simp only;omega,View.le_trans hle3 hle4,fun i hi=> by
         by_cases q:i=w
         · subst q;exact hsa
         · exact hsw i (by simp only at hi;omega)⟩ (by simp only;omega))
     · have e2:i<(slipsL (k.num w)).length:=by omega
       obtain⟨xb,xo,xf,xs,xt,xz,y,rfl,hxb,hy,f4⟩:=strs_at hG2 e2;cases hbg:begins y s with
       | true=>
         have hsa:k.safeAt s w=false:=by
           cases q:k.safeAt s w with
           | false=> rfl
           | true=> have:=safeAt_iff.1 q i y hy;rw[hbg] at this;cases this
         rw[allB_not d2 hsa] at hK;refine U19 ?_;refine .c rfl rfl rfl rfl (fun H hs=> .h (Begins_c M H y s true hbg)) ?_;refine U6 ?_;refine .rt hK func137 results137 [_] ?_;exact fun H' hs=> ⟨View.le_trans hle3 (View.le_trans hle4 hs.base),rfl⟩
       | false=>
         refine U19 ?_;refine .c rfl rfl rfl rfl (fun H hs=> .h (Begins_c M H y s false hbg)) ?_;refine U9 ?_;exact Tc.db (ih2 ⟨i+1,by omega,fun z x hz hx=> by
           by_cases q:z=i
           · subst q;rw[hy] at hx;cases hx;exact hbg
           · exact hni z x (by omega) hx⟩ (by simp only;omega))
 · have c2:j<(slipsL s).length:=by omega
   obtain⟨xb,xo,xf,xs,xt,xz,y,rfl,hxb,hy,f4⟩:=strs_at hG c2;have hly:=fun(H':View) (h:H₂.le H')=> hlo H' h y;cases hln:k.line y with
   | some w=>
     have hsf:k.safe s=false:=by
       have:k.safe1 s=false:=by
         cases q:k.safe1 s with
         | false=> rfl
         | true=> have:=safe1_iff.1 q j y hy;rw[hln] at this;cases this
       unfold Bk.safe;rw[this];rfl
     rw[hsf] at hK;have hwn:=(Bk.line_at hln).1;rw[hln] at hly;have e1:firstI (some w)=((w:Nat):Int):=rfl;rw[e1] at hly;refine U13 ?_;refine Tc.dr [] [] mixed rfl ?_;refine .nn 0 ?_;refine .nn 1 ?_;refine .nn 2 ?_;refine .nn 3 ?_;refine .nn 4 ?_;refine .z 5 rfl (OpV.takeCall rfl rfl rfl rfl (fun H hs=> .h (hly H hs.base))) ?_;refine .nn 6 ?_;refine .dn ?_;refine U5 ?_;refine .rt hK func137 results137 [_] ?_;exact fun H' hs=> ⟨View.le_trans hle2 hs.base,rfl⟩
   | none=>
     rw[hln] at hly;have e1:firstI none= -1:=rfl;rw[e1] at hly;refine U13 ?_;refine Tc.dr [] [] mixed rfl ?_;refine .nn 0 ?_;refine .nn 1 ?_;refine .nn 2 ?_;refine .nn 3 ?_;refine .nn 4 ?_;refine .z 5 rfl (OpV.takeCall rfl rfl rfl rfl (fun H hs=> .h (hly H hs.base))) ?_;refine .nn 6 ?_;refine .dn ?_;refine U8 ?_;exact Tc.db (ih ⟨j+1,by omega,fun i x hi hx=> by
       by_cases q:i=j
       · subst q;rw[hy] at hx;cases hx;exact hln
       · exact hno i x (by omega) hx⟩ (by simp only;omega))
theorem SafeR_c(k:Bk)(A:Option Addr)(lc:Nat)(B:Option Addr)(tc:Nat)(hk:BkAt H k A lc B tc)(hn:k.small)(hnm:∀i,i<k.nl→(k.name i).length≤1000000)(s:List UInt8)(hs2:s.length≤1000):
   CallT M 63 #[k.val A lc B tc,strV s] H (fun v H'=> H.le H'∧v=k.safeV s):=by
 by_cases ha:k.alarm=0
 · have hchk:=fun(H':View) (h:H.le H')=> isV (refCheckBook_c M H' k A lc B tc (hk.le h) hn hnm) (w':=.int .i64 0) (by rw[ha]);cases hin:isNum s with
   | false=>
     have e:k.safeV s=.tuple ⟨[.bool false,.int .i64 3]⟩:=by unfold Bk.safeV;rw[if_neg (by simp[ha]),if_pos hin]
     rw[e];refine .en func63 ntmps63 fun St c cs hK=> ?_;refine U2 ?_;refine .bo fun b2=> ?_;refine U7 ?_;refine .c rfl rfl rfl rfl (fun H hs=> .h (hchk H hs.base)) ?_;refine U13 ?_;refine .c rfl rfl rfl rfl (fun H hs=> .h (IsNumberR_c M H s (by omega) false hin)) ?_;refine U8 ?_;refine .rt hK func63 results63 [_,_] ?_;exact okB
   | true=>
     have hcl:=fun(H':View) (h:H.le H') t ht=> clashesR_c M H' k A lc (hk.le h).rows hn.nl s t ht;cases hc:k.clash s with
     | true=>
       have e:k.safeV s=.tuple ⟨[.bool false,.int .i64 10]⟩:=by unfold Bk.safeV;rw[if_neg (by simp[ha]),if_neg (by simp[hin]),if_pos hc]
       rw[e];refine .en func63 ntmps63 fun St c cs hK=> ?_;refine U2 ?_;refine .bo fun b2=> ?_;refine U7 ?_;refine .c rfl rfl rfl rfl (fun H hs=> .h (hchk H hs.base)) ?_;refine U13 ?_;refine .c rfl rfl rfl rfl (fun H hs=> .h (IsNumberR_c M H s (by omega) true hin)) ?_;refine U10 ?_;refine .c rfl rfl rfl rfl (fun H hs=> .h (hcl H hs.base true hc)) ?_;refine U7 ?_;refine .rt hK func63 results63 [_,_] ?_;exact okB
     | false=>
       have e:k.safeV s=.tuple ⟨[.bool (k.safe s),.int .i64 0]⟩:=by unfold Bk.safeV;rw[if_neg (by simp[ha]),if_neg (by simp[hin]),if_neg (by simp[hc])]
       have hsd:s.all dig=true:=by unfold isNum at hin;rw[Bool.and_eq_true] at hin;exact hin.2
       have hso:=fun(H':View) (h:H.le H')=> SafeOf_c M H' k A lc B tc (hk.le h) ha s hsd hs2;rw[e];refine .en func63 ntmps63 fun St c cs hK=> ?_;refine U2 ?_;refine .bo fun b2=> ?_;refine U7 ?_;refine .c rfl rfl rfl rfl (fun H hs=> .h (hchk H hs.base)) ?_;refine U13 ?_;refine .c rfl rfl rfl rfl (fun H hs=> .h (IsNumberR_c M H s (by omega) true hin)) ?_;refine U10 ?_;refine .c rfl rfl rfl rfl (fun H hs=> .h (hcl H hs.base false hc)) ?_;refine U7 ?_;refine .c rfl rfl rfl rfl (fun H hs=> .h (hso H hs.base)) ?_;refine U3 ?_;refine .rt hK func63 results63 [_,_] ?_;exact okB
 · have e:k.safeV s=.tuple ⟨[.bool false,.int .i64 k.alarm]⟩:=by unfold Bk.safeV;rw[if_pos ha]
   rw[e];have hchk:=fun(H':View) (h:H.le H')=> refCheckBook_c M H' k A lc B tc (hk.le h) hn hnm;generalize k.alarm=al at ha hchk ⊢;refine .en func63 ntmps63 fun St c cs hK=> ?_;refine U2 ?_;refine .bo fun b2=> ?_;refine U7 ?_;refine .c rfl rfl rfl rfl (fun H hs=> .h (hchk H hs.base)) ?_;refine U14 ?_;refine .rt hK func63 results63 [_,_] ?_;exact okB
end
section
variable(M:Md prog)(H:View)
theorem SlipsR_alarm(k:Bk)(A:Option Addr)(lc:Nat)(B:Option Addr)(tc:Nat)(hk:BkAt H k A lc B tc)(hn:k.small)(hnm:∀i,i<k.nl→(k.name i).length≤1000000)(ha:k.alarm≠0)(line:Int):
   CallT M 61 #[k.val A lc B tc,.int .i64 line] H (fun v H'=> H.le H'∧v=.tuple ⟨[.slice none 0 0,.int .i64 k.alarm]⟩):=by
 have hchk:=fun(H':View) (h:H.le H')=> refCheckBook_c M H' k A lc B tc (hk.le h) hn hnm;generalize k.alarm=al at ha hchk ⊢;refine .en func61 ntmps61 fun St c cs hK=> ?_;refine U2 ?_;refine .bo fun b2=> ?_;refine U7 ?_;refine .c rfl rfl rfl rfl (fun H hs=> .h (hchk H hs.base)) ?_;refine U14 ?_;refine .rt hK func61 results61 [_,_] ?_;exact okB
theorem SlipsR_absent(k:Bk)(A:Option Addr)(lc:Nat)(B:Option Addr)(tc:Nat)(hk:BkAt H k A lc B tc)(hn:k.small)(hnm:∀i,i<k.nl→(k.name i).length≤1000000)(ha:k.alarm=0)(line:Int)(hl:¬(0≤line∧line≤(k.nl:Int)-1)):
   CallT M 61 #[k.val A lc B tc,.int .i64 line] H (fun v H'=> H.le H'∧v=.tuple ⟨[.slice none 0 0,.int .i64 6]⟩):=by
 have hnl:=hn.nl;have hchk:=fun(H':View) (h:H.le H')=> isV (refCheckBook_c M H' k A lc B tc (hk.le h) hn hnm) (w':=.int .i64 0) (by rw[ha]);refine .en func61 ntmps61 fun St c cs hK=> ?_;refine U2 ?_;refine .bo fun b2=> ?_;refine U7 ?_;refine .c rfl rfl rfl rfl (fun H hs=> .h (hchk H hs.base)) ?_;refine U17 ?_;refine .c rfl rfl rfl rfl (fun H hs=> .h (In_c M H line 0 ((k.nl:Int)-1) false (decide_eq_false hl))) ?_;refine U8 ?_;refine .rt hK func61 results61 [_,_] ?_;exact okB
theorem SlipsR_c(k:Bk)(A:Option Addr)(lc:Nat)(B:Option Addr)(tc:Nat)(hk:BkAt H k A lc B tc)(hn:k.small)(hnm:∀i,i<k.nl→(k.name i).length≤1000000)(ha:k.alarm=0)(line:Nat)(hl:line<k.nl):
   CallT M 61 #[k.val A lc B tc,.int .i64 (line:Nat)] H (fun v H'=> H.le H'∧∃(G:Option Addr) (c:Nat),v=.tuple ⟨[.slice G (ascI (k.hits line)).length c,.int .i64 0]⟩∧FreeAt H' G (ascI (k.hits line)).length (exAt (ascI (k.hits line)))):=by
 obtain⟨hgg,hnl,hnt,hok⟩:=Bk.valid ha;have hchk:=fun(H':View) (h:H.le H')=> isV (refCheckBook_c M H' k A lc B tc (hk.le h) hn hnm) (w':=.int .i64 0) (by rw[ha]);obtain⟨hdw,_,hl3⟩:=Bk.isNum_of ha hl;obtain⟨_,h0|⟨ab,ao,f,gs,gt,gz,rfl,hb,hrow⟩⟩:=id hk.rows
 · omega
 obtain⟨F,fc,f1,_,_⟩:=hrow line hl;have f2:ldL false 1 gs (ao+((line:Nat):Int).toNat*3+1)=some (strV (k.num line)):=ldL_cell f1 (by decide);have hL:=slipsL_le (s:=k.num line) (by omega);refine .en func61 ntmps61 fun St c cs hK=> ?_;refine U2 ?_;refine .bo fun b2=> ?_;refine U7 ?_;refine .c rfl rfl rfl rfl (fun H hs=> .h (hchk H hs.base)) ?_;refine U17 ?_;refine .c rfl rfl rfl rfl (fun H hs=> .h (In_c M H (line:Nat) 0 ((k.nl:Int)-1) true (decide_eq_true (by omega)))) ?_;refine U12 ?_;refine To.callF rfl rfl rfl rfl rfl rfl (by decide) (FnT.h (SlipsOf_c M H (k.num line) hdw (by omega))) (fun v H₂ hv=> ?_);obtain⟨hle2,G,gc,rfl,hG⟩:=hv;have hlo:=fun(H':View) (h:H₂.le H') x=> LineOf_c M H' k (some ⟨ab,ao,none⟩) lc B tc (hk.rows.le (View.le_trans hle2 h)) (by omega) x;refine U12 ?_;refine Tc.db (Tc.loopInv (σ:= { x:Nat×Gl 3 1//x.1≤k.nl∧x.2.n=(k.refHit line x.1).length∧x.2.l=intsL (k.refHit line x.1) }) (fun x=> ([(1,.int .i64 (line:Nat)),(2,.pointer (some ⟨b2,0,none⟩)),(7,.slice G (slipsL (k.num line)).length gc),(8,x.1.2.val),(9,.int .i64 (x.1.1:Nat))],[(b2,true,.cells ⟨(k.val (some ⟨ab,ao,none⟩) lc B tc).cells.toList⟩ 25 (0,0))]++x.1.2.bl)) (fun x=> k.nl-x.1.1) ?_ ⟨(0,Gl.nil 3 1),Nat.zero_le _,rfl,rfl⟩);rintro⟨⟨j,g⟩,hj,hgn,hgl⟩ ih;simp only at hj hgn hgl;show Tc M St _ _ H₂ _ [(1,.int .i64 (line:Nat)),(2,.pointer (some ⟨b2,0,none⟩)),(7,.slice G (slipsL (k.num line)).length gc),(8,g.val),(9,.int .i64 (j:Nat))] ([(b2,true,.cells ⟨(k.val (some ⟨ab,ao,none⟩) lc B tc).cells.toList⟩ 25 (0,0))]++g.bl) _ _;have hrl:=refHit_le k line j;by_cases c1:j=k.nl
 · clear ih;subst c1;rw[refHit_all] at hgn hgl;refine U17 ?_;refine .rt hK func61 results61 [_,_] ?_;exact fun H' hs=> ⟨View.le_trans hle2 hs.base,g.blk.map fun b=> ⟨b,0,none⟩,g.cap,by rw[←hgn];rfl,cl_at g (fun x hx=> hs.at_ x (by simp[hx])) (hgl.trans (clL_ints _)) hgn⟩
 · have c2:j<k.nl:=by omega
   have hres:k.refHit line (j+1)=k.refHit line j++(if k.anyHit (k.num line) (j:Nat) (slipsL (k.num line)).length=true∧j≠line then [((j:Nat):Int)] else []):=rfl;have hih:=fun(g':Gl 3 1) (h1:g'.n=(k.refHit line (j+1)).length) (h2:g'.l=intsL (k.refHit line (j+1)))=> ih ⟨(j+1,g'),by simp only;omega,h1,h2⟩ (by simp only;omega);clear ih;refine U23 ?_;refine Tc.db (Tc.loopInv (σ:= { i:Nat//i≤(slipsL (k.num line)).length }) (fun i=> ([(1,.int .i64 (line:Nat)),(2,.pointer (some ⟨b2,0,none⟩)),(7,.slice G (slipsL (k.num line)).length gc),(8,g.val),(9,.int .i64 (j:Nat)),(10,.bool (k.anyHit (k.num line) (j:Nat) i.1)),(11,.int .i64 (i.1:Nat))],[(b2,true,.cells ⟨(k.val (some ⟨ab,ao,none⟩) lc B tc).cells.toList⟩ 25 (0,0))]++g.bl)) (fun i=> (slipsL (k.num line)).length-i.1) ?_ ⟨0,Nat.zero_le _⟩);rintro⟨i,hi⟩ ih2;show Tc M St _ _ H₂ _ [(1,.int .i64 (line:Nat)),(2,.pointer (some ⟨b2,0,none⟩)),(7,.slice G (slipsL (k.num line)).length gc),(8,g.val),(9,.int .i64 (j:Nat)),(10,.bool (k.anyHit (k.num line) (j:Nat) i)),(11,.int .i64 (i:Nat))] ([(b2,true,.cells ⟨(k.val (some ⟨ab,ao,none⟩) lc B tc).cells.toList⟩ 25 (0,0))]++g.bl) _ _;by_cases d1:i=(slipsL (k.num line)).length
   · clear ih2;subst d1;generalize k.anyHit (k.num line) (j:Nat) (slipsL (k.num line)).length=bb at hres ⊢;cases bb with
     | false=>
       rw[if_neg (by simp),List.append_nil] at hres;refine U27 ?_;exact Tc.db (hih g (by rw[hres];exact hgn) (by rw[hres];exact hgl))
     | true=>
       by_cases d2:j=line
       · rw[if_neg (by simp[d2]),List.append_nil] at hres;refine U27 ?_;exact Tc.db (hih g (by rw[hres];exact hgn) (by rw[hres];exact hgl))
       · rw[if_pos ⟨rfl,d2⟩] at hres;refine U23 ?_;refine .e (.bs (zz:=fun bs=> ?_));refine .e (Or.append (E:=en) 2 rfl rfl rfl rfl rfl rfl rfl rfl rfl rfl rfl rfl rfl rfl rfl (fun H hs=> SrcAt.of (hs.get (i:=0) rfl) (Nat.le_of_ble_eq_true rfl)) rfl (by omega) rfl (by decide) (fun g2 hn2 hl2=> ?_));refine U8 ?_;exact Tc.db (hih g2 (by rw[hres,List.length_append,hn2,hgn];rfl) (by rw[hres,hl2,hgl];unfold intsL;rw[List.map_append];rfl))
   · have d2:i<(slipsL (k.num line)).length:=by omega
     obtain⟨xb,xo,xf,xs,xt,xz,y,rfl,hxb,hy,f4⟩:=strs_at hG d2;have hnx:=anyHit_succ (k:=k) (z:=((j:Nat):Int)) hy;have hih2:=ih2 ⟨i+1,by omega⟩ (by simp only;omega);simp only[hnx] at hih2;have hfi: -1≤firstI (k.line y)∧firstI (k.line y)<1000000:=by
       cases h:k.line y with
       | none=> exact⟨Int.le_refl _,by decide⟩
       | some z=>
         have h2:=(Bk.line_at h).1;have h3:firstI (some z)=((z:Nat):Int):=rfl;omega
     have hlx:=fun(H':View) (h:H₂.le H')=> hlo H' h y;generalize firstI (k.line y)=z at hih2 hfi hlx;generalize k.anyHit (k.num line) (j:Nat) i=bb at hih2 ⊢;cases bb with
     | true=>
       rw[Bool.true_or] at hih2;refine U12 ?_;refine Tc.dr [] [] mixed rfl ?_;refine .nn 0 ?_;refine .nn 1 ?_;refine .nw 2 ?_;refine .nw 3 ?_;refine .nw 4 ?_;refine .nw 5 ?_;refine .nw 6 ?_;refine .nw 7 ?_;refine .nw 8 ?_;refine .nw 9 ?_;refine .nn 10 ?_;refine .nn 11 ?_;refine .dn ?_;refine U6 ?_;exact Tc.db (hih2)
     | false=>
       rw[Bool.false_or] at hih2;by_cases d3:z=((j:Nat):Int)
       · rw[decide_eq_true d3] at hih2;refine U12 ?_;refine Tc.drT [] [] [] 1 mixed rfl ?_;refine .oo 0 ?_;refine .oo 1 ?_;refine .oo 2 ?_;refine .oo 3 ?_;refine .oo 4 ?_;refine .oo 5 ?_;refine .oo 6 ?_;refine Ta.tkC 7 (by kernel_rfl) rfl rfl (by decide) rfl rfl (OpV.takeCall rfl rfl rfl rfl (fun H hs=> .h (hlx H hs.base))) ?_;refine .oo 8 ?_;refine .oo 9 ?_;refine .oo 10 ?_;refine .oo 11 ?_;refine .dn ?_;refine U6 ?_;exact Tc.db (hih2)
       · rw[decide_eq_false d3] at hih2;refine U12 ?_;refine Tc.drT [] [] [] 1 mixed rfl ?_;refine .oo 0 ?_;refine .oo 1 ?_;refine .oo 2 ?_;refine .oo 3 ?_;refine .oo 4 ?_;refine .oo 5 ?_;refine .oo 6 ?_;refine Ta.tkC 7 (by kernel_rfl) rfl rfl (by decide) rfl rfl (OpV.takeCall rfl rfl rfl rfl (fun H hs=> .h (hlx H hs.base))) ?_;refine .oo 8 ?_;refine .oo 9 ?_;refine .oo 10 ?_;refine .oo 11 ?_;refine .dn ?_;refine U6 ?_;exact Tc.db (hih2)
end
theorem allFrom_pre(dg:List UInt8):∀(d:Nat) (s:List UInt8),allFrom dg d s=(allL dg d).map (s++·)
 | 0,s=> by simp[allFrom,allL]
 | d+1,s=> by
   have h1:=fun x=> allFrom_pre dg d (s++[x]);have h2:=fun x=> allFrom_pre dg d [x];show dg.flatMap (fun x=> allFrom dg d (s++[x]))=(dg.flatMap fun x=> allFrom dg d ([]++[x])).map (s++·);simp only[List.nil_append,h1,h2,List.map_flatMap,List.map_map]
   congr 1
   funext x
   congr 1
   funext y
   simp
theorem flat_le {α β:Type}{f:α→List β}{K:Nat}(h:∀x,(f x).length≤K):∀l:List α,(l.flatMap f).length≤l.length*K
 | []=> Nat.zero_le _
 | x::l=> by
   rw[List.flatMap_cons,List.length_append,List.length_cons,Nat.succ_mul];have h1:=h x;have h2:=flat_le h l;omega
theorem allLen(dg:List UInt8)(hd:dg.length≤10):∀d,(allL dg d).length≤10 ^ d
 | 0=> Nat.le_refl _
 | d+1=> by
   show(dg.flatMap fun x=> allFrom dg d ([]++[x])).length≤_;have h1:=flat_le (f:=fun x=> allFrom dg d ([]++[x])) (K:=10 ^ d) (fun x=> by rw[allFrom_pre,List.length_map];exact allLen dg hd d) dg;rw[Nat.pow_succ,Nat.mul_comm];exact Nat.le_trans h1 (Nat.mul_le_mul_right _ hd)
def byts(a n:Nat):List UInt8:=(List.range' a n).map UInt8.ofNat
theorem byts_at {a n i:Nat}(h:i<n):(byts a n)[i]? =some (UInt8.ofNat (a+i)):=by
 unfold byts;rw[List.getElem?_map,List.getElem?_range' h];simp
theorem byts_len(a n:Nat):(byts a n).length=n:=by unfold byts;rw[List.length_map,List.length_range']
def numsB(dg:List UInt8)(d i:Nat):List (List UInt8):=(dg.take i).flatMap fun x=> allFrom dg d [x]
def numsC(dg:List UInt8)(d i:Nat)(x:UInt8)(j:Nat):List (List UInt8):=numsB dg d i++((allL dg d).take j).map ([x]++·)
theorem numsB_all(dg:List UInt8)(d:Nat):numsB dg d dg.length=allL dg (d+1):=by
 unfold numsB;rw[List.take_length];rfl
theorem numsC_zero(dg:List UInt8)(d i:Nat)(x:UInt8):numsC dg d i x 0=numsB dg d i:=by simp[numsC]
theorem numsC_all {dg:List UInt8}{d i:Nat}{x:UInt8}(h:dg[i]? =some x):numsC dg d i x (allL dg d).length=numsB dg d (i+1):=by
 unfold numsC numsB;rw[List.take_length,List.take_add_one,h,List.flatMap_append,←allFrom_pre];simp
theorem numsC_succ {dg:List UInt8}{d i j:Nat}{x:UInt8}{y:List UInt8}(h:(allL dg d)[j]? =some y):numsC dg d i x (j+1)=numsC dg d i x j++[[x]++y]:=by
 unfold numsC;rw[List.take_add_one,h,List.map_append,List.append_assoc];rfl
theorem numsC_le {dg:List UInt8}(hd:dg.length≤10){d:Nat}(h2:d≤2)(i:Nat)(x:UInt8)(j:Nat):(numsC dg d i x j).length≤2000:=by
 have h3:(allL dg d).length≤100:=Nat.le_trans (allLen dg hd d) (by rcases(by omega:d=0∨d=1∨d=2) with rfl|rfl|rfl <;> decide);have h1:=flat_le (f:=fun x=> allFrom dg d [x]) (K:=100) (fun x=> by rw[allFrom_pre,List.length_map];exact h3) (dg.take i);unfold numsC numsB;rw[List.length_append,List.length_map,List.length_take];rw[List.length_take] at h1;have h4:min i dg.length*100≤10*100:=Nat.mul_le_mul_right _ (by omega);omega
theorem u8_128:∀x:Nat,x<128→IntKind.u8.wrap (x:Int)=(x:Int):=by decide +kernel
section
variable(M:Md prog)
theorem Numbers_c(a n b:Nat)(hn:n≤10)(hb:a+n=b+1)(hb2:b≤100):∀(many:Nat) (_:many≤3) (H:View),
   CallT M 129 #[.int .i64 (many:Nat),.int .u8 (a:Nat),.int .u8 (b:Nat)] H (fun v H'=> H.le H'∧∃(G:Option Addr) (c:Nat),v=.slice G (allL (byts a n) many).length c∧StrsAt H' G (allL (byts a n) many).length (fun j=> (allL (byts a n) many)[j]?.getD []))
 | 0,_,H=> by
   refine .en func129 ntmps129 fun St c cs hK=> ?_;refine U13 ?_;refine .e (.bs (zz:=fun bs=> ?_));refine U2 ?_;refine .rt hK func129 results129 [_] ?_;refine fun H' hs=> ⟨hs.base,some ⟨bs,0,none⟩,1,rfl,?_⟩
   have h:SrcAt H' 1 (.slice (some ⟨bs,0,none⟩) 1 1) 1 (strsV [[]]):=SrcAt.of (hs.get (i:=0) rfl) (Nat.le_of_ble_eq_true rfl);exact strs_src (l:= [[]]) h rfl
 | d + 1,hd3,H=> by
   have IH:=fun H'=> Numbers_c a n b hn hb hb2 d (by omega) H';have hdl:(byts a n).length≤10:=by rw[byts_len];exact hn
   have w1:intBin .sub .i64 ((d+1:Nat):Int) 1=some (.int .i64 (d:Nat)):=by rw[sub_in (by omega) (by omega)];congr 2;omega
   have w2:¬((d+1:Nat):Int)=0:=by omega
   refine .en func129 ntmps129 fun St c cs hK=> ?_;refine U23 ?_;refine Tc.db (Tc.loopB (σ:= { x:Nat×Gl 9 1×View//x.1≤n∧H.le x.2.2∧x.2.1.n=(numsB (byts a n) d x.1).length∧x.2.1.l=strsV (numsB (byts a n) d x.1) }) (fun x=> (x.1.2.2,[(0,.int .i64 ((d+1:Nat):Int)),(1,.int .u8 (a:Nat)),(2,.int .u8 (b:Nat)),(7,x.1.2.1.val),(8,.int .u8 ((a+x.1.1:Nat):Int))],x.1.2.1.bl)) (fun x=> n-x.1.1) ?_ ⟨(0,Gl.nil 9 1,H),Nat.zero_le _,View.le_refl _,rfl,rfl⟩);rintro⟨⟨i,g,H₂⟩,hi,hle,hgn,hgl⟩ ih;simp only at hi hle hgn hgl;show Tc M St _ _ H₂ _ [(0,.int .i64 ((d+1:Nat):Int)),(1,.int .u8 (a:Nat)),(2,.int .u8 (b:Nat)),(7,g.val),(8,.int .u8 ((a+i:Nat):Int))] g.bl _ _;by_cases c1:i=n
   · clear ih;subst c1;have e1:=numsB_all (byts a i) d;rw[byts_len] at e1;rw[e1] at hgn hgl;refine U14 ?_;refine .rt hK func129 results129 [_] ?_;refine fun H' hs=> ⟨View.le_trans hle hs.base,g.blk.map fun b=> ⟨b,0,none⟩,g.cap,by rw[←hgn];rfl,?_⟩
     have h:=g.src (H:=H') (fun x hx=> hs.at_ x hx);rw[hgl] at h;unfold Gl.val at h;rw[hgn] at h;exact strs_src h rfl
   · have c2:i<n:=by omega
     have hx:=byts_at (a:=a) c2;have hxe:((a+i:Nat):Int)=(((UInt8.ofNat (a+i)).toNat:Nat):Int):=by rw[UInt8.toNat_ofNat'];omega
     have w3:intBin .add .u8 ((a+i:Nat):Int) 1=some (.int .u8 ((a+(i+1):Nat):Int)):=by
       show some (Value.int _ (IntKind.u8.wrap _))=_;rw[show((a+i:Nat):Int)+1=((a+(i+1):Nat):Int) by omega,u8_128 _ (by omega)]
     have w4:((a+i:Nat):Int)≤((b:Nat):Int):=by omega
     rw[hxe] at w3 w4 ⊢;generalize UInt8.ofNat (a+i)=x at hx w3 w4 ⊢;have hx2:(((x.toNat:Nat):Int))≤((b:Nat):Int):=w4;refine U17 ?_;refine To.callF rfl rfl rfl rfl rfl rfl (by decide) (FnT.h (IH H₂)) (fun v H₃ hv=> ?_);obtain⟨hle3,G,gc,rfl,hG⟩:=hv;have hlen:(allL (byts a n) d).length≤100:=Nat.le_trans (allLen _ hdl d) (by rcases(by omega:d=0∨d=1∨d=2) with rfl|rfl|rfl <;> decide);refine U7 ?_;rw[←numsC_zero _ _ _ x] at hgn hgl;refine Tc.db (Tc.loopInv (σ:= { y:Nat×Gl 9 1//y.1≤(allL (byts a n) d).length∧y.2.n=(numsC (byts a n) d i x y.1).length∧y.2.l=strsV (numsC (byts a n) d i x y.1) }) (fun y=> ([(0,.int .i64 ((d+1:Nat):Int)),(1,.int .u8 (a:Nat)),(2,.int .u8 (b:Nat)),(7,y.1.2.val),(8,.int .u8 ((x.toNat:Nat):Int)),(9,.slice G (allL (byts a n) d).length gc),(10,.int .i64 (y.1.1:Nat))],y.1.2.bl)) (fun y=> (allL (byts a n) d).length-y.1.1) ?_ ⟨(0,g),Nat.zero_le _,hgn,hgl⟩);clear hgn hgl;rintro⟨⟨j,g1⟩,hj,hn1,hl1⟩ ih2;simp only at hj hn1 hl1;show Tc M St _ _ H₃ _ [(0,.int .i64 ((d+1:Nat):Int)),(1,.int .u8 (a:Nat)),(2,.int .u8 (b:Nat)),(7,g1.val),(8,.int .u8 ((x.toNat:Nat):Int)),(9,.slice G (allL (byts a n) d).length gc),(10,.int .i64 (j:Nat))] g1.bl _ _;have hcl:=numsC_le hdl (d:=d) (by omega) i x j;by_cases d1:j=(allL (byts a n) d).length
     · clear ih2;subst d1;rw[numsC_all hx] at hn1 hl1;refine U16 ?_;exact Tc.db (ih ⟨(i+1,g1,H₃),by simp only;omega,View.le_trans hle hle3,hn1,hl1⟩ (by simp only;omega))
     · have d2:j<(allL (byts a n) d).length:=by omega
       obtain⟨xb,xo,xf,xs,xt,xz,y,rfl,hxb,hy,f4⟩:=strs_at hG d2;have hyl:=(mem_allL (List.mem_of_getElem? hy)).1;have hsu:=numsC_succ (i:=i) (x:=x) hy;have q1:RL.strB .add [x] y=some (strV ([x]++y)):=by
         rw[strB_add (by simp only[List.length_singleton];omega)]
       refine U12 ?_;refine Tc.drT [10] [] [] 0 mixed rfl ?_;refine .oo 0 ?_;refine .oo 1 ?_;refine .oo 4 ?_;refine .oo 5 ?_;refine .oo 6 ?_;refine .oo 7 ?_;refine Ta.each [2] (by kernel_rfl) rfl ⟨TaOp.mk rfl rfl rfl (.bs (zz:=fun bb=> ⟨S3.mk (by exact List.nil_sublist _) (.inr (by apply List.Sublist.cons;exact List.Sublist.refl _)),?_⟩)),trivial⟩;refine Ta.each [3] (by kernel_rfl) rfl ⟨TaOp.mk rfl rfl rfl (Or.ofV (OpV.convB (E:=en) (m:=1) (s:= [x]) rfl rfl (fun H hs=> SrcAt.of (hs.get (i:=0) rfl) (Nat.le_of_ble_eq_true rfl)) rfl rfl rfl rfl rfl rfl) rfl (by decide) ⟨S3.mk (by exact List.nil_sublist _) (.inr (by apply List.Sublist.cons;exact List.Sublist.refl _)),?_⟩),trivial⟩;refine .oo 8 ?_;refine Ta.each [9] (by kernel_rfl) rfl ⟨TaOp.mk rfl rfl rfl (.bs (zz:=fun bs=> ⟨S3.mk (by exact List.nil_sublist _) (.inr (by apply List.Sublist.cons;apply List.Sublist.cons;exact List.Sublist.refl _)),?_⟩)),trivial⟩;refine Ta.each [10] (by kernel_rfl) rfl ⟨TaOp.mk rfl rfl rfl (Or.append (E:=en) (g:=g1) (m:=1) (new:= [strV ([x]++y)]) (yv:=.slice (some ⟨bs,0,none⟩) 1 1) 2 rfl rfl rfl rfl rfl rfl rfl rfl rfl rfl rfl rfl rfl rfl rfl (fun H hs=> SrcAt.of (hs.get (i:=0) rfl) (Nat.le_of_ble_eq_true rfl)) rfl (by omega) rfl (by decide) (fun g2 hn2 hl2=> ⟨S3.mk (by exact List.nil_sublist _) (.inl (by kernel_rfl)),?_⟩)),trivial⟩;refine .ow 11 ?_;refine .dn ?_;refine U6 ?_;exact Tc.db (ih2 ⟨(j+1,g2),by simp only;omega,by simp only;rw[hsu,List.length_append,hn2,hn1];rfl,by simp only;rw[hsu,hl2,hl1,strsV_app];rfl⟩ (by simp only;omega))
end
end Go.Proofs.YtdnfdeplcjaonaaGreatDoor
namespace Go.RL
open Go.Conc
section
variable {P:Program}{M:Md P}{St:View→Goroutine→Prop}{n:Nat}{b:FB}{H₀:View}{cs:List Frame}{R:Rg}{L:Bl}{ds:List Deferred}{k:List Item}{S:Array Bool→View→Prop}{md:Region.Mode}{ops:Array Oper}
theorem Ta.psU(i:Nat){B:List Nat}{Ls L₁:Bl}{o:Oper}{d:Nat}{fuel:Nat}{listed:Array Bool}(hc:takeOk md ops [] listed i=true)(hSi:B.contains i=false)(hi:ops[i]? =some o)(hd:o.dst=some d)(hn:d<n)(hnd:isDefer o.op=false)(hw:offB (ops.toList.map (fun o:Oper=> o.dst)) R o=true)
   (h:Ta M St n b H₀ cs (S2 H₀ B Ls L) md ops fuel (listed.setIfInBounds i true) ((d,undef)::R) L₁ ds k):Ta M St n b H₀ cs (S2 H₀ B Ls L) md ops (fuel+1) listed R L₁ ds k:=by
 simp only[takeOk,Bool.and_eq_true,Bool.not_eq_true'] at hc;obtain⟨⟨⟨⟨⟨hsel,hr⟩,hf⟩,hcl⟩,_⟩,_⟩:=hc;intro H tmps hs hr' hS;refine AnyT.first hi (Region.noSelect_spec hsel) hnd (S2.same hSi) fuel listed tmps H (fun j oj hj hne hun hno=> Region.free_spec hi hf j oj hj hne hun hno) hcl (by simpa using hr) (.inr ⟨offB_ok (fun j=> ?_) hr' hw,rfl⟩) ?_
 · simp only[List.getElem?_map,Array.getElem?_toList];cases ops[j]? <;> rfl
 · rw[hd];exact h H _ hs (hr'.put hn undef) ((S2.same hSi _ H).2 hS)
end
end Go.RL
namespace Go.Proofs.YtdnfdeplcjaonaaGreatDoor
open Go.RL Go.Proofs.Tryz
set_option maxRecDepth 10000
set_option maxHeartbeats 8000000
theorem find_at {l:List (List UInt8)}{p:List UInt8→Bool}{i:Nat}{x:List UInt8}(h:l[i]? =some x)(hx:p x=true)(hno:∀j y,j<i→l[j]? =some y→p y=false):l.find? p=some x:=by
 obtain⟨h1,h2⟩:=List.getElem?_eq_some_iff.1 h;refine List.find?_eq_some_iff_getElem.2 ⟨hx,i,h1,h2,fun j hj=> ?_⟩;rw[hno j l[j] hj (List.getElem?_eq_getElem (by omega))];rfl
theorem find_no {l:List (List UInt8)}{p:List UInt8→Bool}(hno:∀j y,j<l.length→l[j]? =some y→p y=false):l.find? p=none:=by
 refine List.find?_eq_none.2 fun x hx=> ?_;obtain⟨j,hj,rfl⟩:=List.getElem_of_mem hx;rw[hno j _ hj (List.getElem?_eq_getElem hj)];simp
theorem byts_digs:byts 48 10=digs:=by decide +kernel
section
variable(M:Md prog)(H:View)
theorem SpareR_c(k:Bk)(A:Option Addr)(lc:Nat)(B:Option Addr)(tc:Nat)(hk:BkAt H k A lc B tc)(hn:k.small)(hnm:∀i,i<k.nl→(k.name i).length≤1000000)(z:Int)(sf:Bool):
   CallT M 64 #[k.val A lc B tc,.int .i64 z,.bool sf] H (fun v H'=> H.le H'∧v=k.spareV z sf):=by
 by_cases ha:k.alarm=0
 · have hchk :=fun(H':View) (h:H.le H')=> isV (refCheckBook_c M H' k A lc B tc (hk.le h) hn hnm) (w':=.int .i64 0) (by rw[ha]);by_cases c1:1≤z∧z≤3
   · obtain ⟨n,rfl⟩:∃n:Nat,z=n:=⟨z.toNat,by omega⟩
     have ev:k.spareV (n:Nat) sf=match (allL digs n).find? (k.spareOk sf) with
         | some x=> spare3 x true 0
         | none=> spare3 [] false 0:=by
       unfold Bk.spareV;rw[if_neg (by simp[ha]),if_neg (fun h=> h c1)];rfl
     have hin:=fun(H':View)=> In_c M H' ((n:Nat):Int) 1 3 true (decide_eq_true c1);have hnu:=fun(H':View)=> Numbers_c M 48 10 57 (by decide) rfl (by decide) n (by omega) H';rw[byts_digs] at hnu;have hlen:(allL digs n).length≤1000:=Nat.le_trans (allLen digs (by decide) n) (by rcases(by omega:n=1∨n=2∨n=3) with rfl|rfl|rfl <;> decide);rw[ev];refine .en func64 ntmps64 fun St c cs hK=> ?_;refine U2 ?_;refine .bo fun b3=> ?_;refine U8 ?_;refine .c rfl rfl rfl rfl (fun H hs=> .h (hchk H hs.base)) ?_;refine U13 ?_;refine .c rfl rfl rfl rfl (fun H hs=> .h (hin H)) ?_;refine U7 ?_;refine To.callF rfl rfl rfl rfl rfl rfl (by decide) (FnT.h (hnu H)) (fun v H₂ hv=> ?_);obtain⟨hle2,G,gc,rfl,hG⟩:=hv;refine U8 ?_;have hcl:=fun(H':View) (h:H₂.le H') s t ht=> clashesR_c M H' k A lc (hk.le (View.le_trans hle2 h)).rows hn.nl s t ht;have hso:=fun(H':View) (h:H₂.le H') s h1 h2=> SafeOf_c M H' k A lc B tc (hk.le (View.le_trans hle2 h)) ha s h1 h2;refine Tc.db (Tc.loopInv (σ:= { j:Nat//j≤(allL digs n).length∧∀i x,i<j→(allL digs n)[i]? =some x→k.spareOk sf x=false }) (fun j=> ([(2,.bool sf),(3,.pointer (some ⟨b3,0,none⟩)),(10,.slice G (allL digs n).length gc),(11,.int .i64 (j.1:Nat))],[(b3,true,.cells ⟨(k.val A lc B tc).cells.toList⟩ 25 (0,0))])) (fun j=> (allL digs n).length-j.1) ?_ ⟨0,Nat.zero_le _,fun i x hi=> absurd hi (Nat.not_lt_zero i)⟩);rintro⟨j,hj,hno⟩ ih;show Tc M St _ _ H₂ _ [(2,.bool sf),(3,.pointer (some ⟨b3,0,none⟩)),(10,.slice G (allL digs n).length gc),(11,.int .i64 (j:Nat))] [(b3,true,.cells ⟨(k.val A lc B tc).cells.toList⟩ 25 (0,0))] _ _;by_cases d1:j=(allL digs n).length
     · clear ih;subst d1;rw[find_no hno] at hK;refine U16 ?_;refine .rt hK func64 results64 [_,_,_] ?_;exact fun H' hs=> ⟨View.le_trans hle2 hs.base,rfl⟩
     · have d2:j<(allL digs n).length:=by omega
       obtain⟨xb,xo,xf,xs,xt,xz,y,rfl,hxb,hy,f4⟩:=strs_at hG d2;obtain⟨hyl,hyd⟩:=mem_allL (List.mem_of_getElem? hy);have hyd2:y.all dig=true:=List.all_eq_true.2 fun x hx=> List.all_eq_true.1 digs_dig x (hyd x hx);have hcy:=fun(H':View) (h:H₂.le H')=> hcl H' h y (k.clash y) rfl;have hsy:=fun(H':View) (h:H₂.le H')=> hso H' h y hyd2 (by omega);have hok:k.spareOk sf y=(!k.clash y&&(!sf||k.safe y)):=rfl;clear hcl hso;generalize k.clash y=c at hcy hok;generalize k.safe y=f at hsy hok;have hno2:k.spareOk sf y=false→∀i x,i<j+1→(allL digs n)[i]? =some x→k.spareOk sf x=false:=by
         clear ih;intro h i x hi hx;by_cases q:i=j
         · subst q;rw[hy] at hx;cases hx
           exact h
         · exact hno i x (by omega) hx
       have hih:=fun(h:k.spareOk sf y=false)=> ih ⟨j+1,by omega,hno2 h⟩ (by simp only;omega);clear ih;cases c with
       | true=>
         have hih2:=hih (by rw[hok];rfl);clear hih;refine U13 ?_;refine Tc.dr [] [] mixed rfl ?_;refine .nn 0 ?_;refine .nn 1 ?_;refine .nn 2 ?_;refine .nn 3 ?_;refine .nn 4 ?_;refine .nn 5 ?_;refine .z 6 rfl (OpV.takeCall rfl rfl rfl rfl (fun H hs=> .h (hcy H hs.base))) ?_;refine .nn 7 ?_;refine .nn 8 ?_;refine .nw 9 ?_;refine .nw 10 ?_;refine .nw 11 ?_;refine Ta.psU 12 (by kernel_rfl) rfl rfl rfl (by decide) rfl rfl ?_;refine Ta.psU 13 (by kernel_rfl) rfl rfl rfl (by decide) rfl rfl ?_;refine Ta.psU 14 (by kernel_rfl) rfl rfl rfl (by decide) rfl rfl ?_;refine Ta.psU 15 (by kernel_rfl) rfl rfl rfl (by decide) rfl rfl ?_;refine Ta.psU 16 (by kernel_rfl) rfl rfl rfl (by decide) rfl rfl ?_;refine Ta.psU 17 (by kernel_rfl) rfl rfl rfl (by decide) rfl rfl ?_;refine .nw 18 ?_;refine .nn 19 ?_;refine .dn ?_;refine U8 ?_;exact Tc.db (hih2)
       | false=>
         by_cases h1:(!sf||f)=true
         · have h2:(allL digs n).find? (k.spareOk sf)=some y:=find_at hy (by rw[hok,h1];rfl) hno;rw[h2] at hK;cases sf with
           | false=>
             refine U13 ?_;refine Tc.dr [] [] mixed rfl ?_;refine .nn 0 ?_;refine .nn 1 ?_;refine .nn 2 ?_;refine .nn 3 ?_;refine .nn 4 ?_;refine .nn 5 ?_;refine .z 6 rfl (OpV.takeCall rfl rfl rfl rfl (fun H hs=> .h (hcy H hs.base))) ?_;refine .nn 7 ?_;refine .nn 8 ?_;refine .nn 9 ?_;refine .nn 10 ?_;refine .nn 11 ?_;refine .nw 12 ?_;refine .nw 13 ?_;refine .nw 14 ?_;refine .nw 15 ?_;refine .nw 16 ?_;refine .nw 17 ?_;refine .nn 18 ?_;refine .nn 19 ?_;refine .dn ?_;refine U11 ?_;refine .rt hK func64 results64 [_,_,_] ?_;exact fun H' hs=> ⟨View.le_trans hle2 hs.base,rfl⟩
           | true=>
             have h3:f=true:=h1;subst h3;refine U13 ?_;refine Tc.dr [] [] mixed rfl ?_;refine .nn 0 ?_;refine .nn 1 ?_;refine .nn 2 ?_;refine .nn 3 ?_;refine .nn 4 ?_;refine .nn 5 ?_;refine .z 6 rfl (OpV.takeCall rfl rfl rfl rfl (fun H hs=> .h (hcy H hs.base))) ?_;refine .nn 7 ?_;refine .nn 8 ?_;refine .nn 9 ?_;refine .nn 10 ?_;refine .nn 11 ?_;refine .nn 12 ?_;refine .nn 13 ?_;refine .nn 14 ?_;refine .nn 15 ?_;refine .nn 16 ?_;refine .z 17 rfl (OpV.takeCall rfl rfl rfl rfl (fun H hs=> .h (hsy H hs.base))) ?_;refine .nn 18 ?_;refine .nn 19 ?_;refine .dn ?_;refine U11 ?_;refine .rt hK func64 results64 [_,_,_] ?_;exact fun H' hs=> ⟨View.le_trans hle2 hs.base,rfl⟩
         · have hih2:=hih (by rw[hok];cases q:(!sf||f);rfl;exact absurd q h1);clear hih;cases sf with
           | false=> exact absurd rfl h1
           | true=>
           cases f with
           | true=> exact absurd rfl h1
           | false=>
             refine U13 ?_;refine Tc.dr [] [] mixed rfl ?_;refine .nn 0 ?_;refine .nn 1 ?_;refine .nn 2 ?_;refine .nn 3 ?_;refine .nn 4 ?_;refine .nn 5 ?_;refine .z 6 rfl (OpV.takeCall rfl rfl rfl rfl (fun H hs=> .h (hcy H hs.base))) ?_;refine .nn 7 ?_;refine .nn 8 ?_;refine .nn 9 ?_;refine .nn 10 ?_;refine .nn 11 ?_;refine .nn 12 ?_;refine .nn 13 ?_;refine .nn 14 ?_;refine .nn 15 ?_;refine .nn 16 ?_;refine .z 17 rfl (OpV.takeCall rfl rfl rfl rfl (fun H hs=> .h (hsy H hs.base))) ?_;refine .nn 18 ?_;refine .nn 19 ?_;refine .dn ?_;refine U8 ?_;exact Tc.db (hih2)
   · have ev:k.spareV z sf=spare3 [] false 1:=by
       unfold Bk.spareV;rw[if_neg (by simp[ha]),if_pos c1]
     rw[ev];refine .en func64 ntmps64 fun St c cs hK=> ?_;refine U2 ?_;refine .bo fun b3=> ?_;refine U8 ?_;refine .c rfl rfl rfl rfl (fun H hs=> .h (hchk H hs.base)) ?_;refine U13 ?_;refine .c rfl rfl rfl rfl (fun H hs=> .h (In_c M H z 1 3 false (decide_eq_false c1))) ?_;refine U9 ?_;refine .rt hK func64 results64 [_,_,_] ?_;exact okB
 · have ev:k.spareV z sf=spare3 [] false k.alarm:=if_pos ha;rw[ev];have hchk:=fun(H':View) (h:H.le H')=> refCheckBook_c M H' k A lc B tc (hk.le h) hn hnm;generalize k.alarm=al at ha hchk ⊢;refine .en func64 ntmps64 fun St c cs hK=> ?_;refine U2 ?_;refine .bo fun b3=> ?_;refine U8 ?_;refine .c rfl rfl rfl rfl (fun H hs=> .h (hchk H hs.base)) ?_;refine U15 ?_;refine .rt hK func64 results64 [_,_,_] ?_;exact okB
end
end Go.Proofs.YtdnfdeplcjaonaaGreatDoor
namespace Go.RL
section
variable {P:Program}{E:Env P}{M:Md P}{n:Nat}{H₀:View}{R:Rg}{L:Bl}{K:Rg→Bl→Prop}{o:Oper}{d:Nat}
theorem Or.appendEnd(k:Nat)(Y:Bl){cl:Go.Call}{x y:Operand}{t xt e:TypeId}{sz m:Nat}{yv:Value}{new:List Value}{g:Gl e sz}{r re rx:TyRow}{ex:TypeId}(hop:o.op=.call cl)(hcl:cl.callee=.builtin .append)(hat:cl.argTypes=#[t,xt])(har:cl.args=#[x,y])
   (hx:evR R x=some g.val) (hy:evR R y=some yv) (ht:E.ty t=some r) (hds:r.ds=.slice e) (hre:E.ty e=some re) (hsz:re.size=sz) (hzs:Nat.beq re.zero.cells.toList.length sz=true) (hxt:E.ty xt=some rx) (hex:rx.ds=.slice ex) (hby:Nat.ble re.bytes 1000=true)
   (hL:L.drop k=g.bl++Y) (hsrc:∀H,SymSt H₀ L H→SrcAt H sz yv m new) (hs:new.all single=true) (hm:g.n+m≤1000000000) (hd:o.dst=some d) (hn:d<n)
   (hk:∀g':Gl e sz,g'.n=g.n+m→g'.l=g.l++new→K ((d,g'.val)::R) (L.take k++(Y++g'.bl))):Or M n H₀ R L o K:=
 .val hd hn fun H tmps hst hr=> by
   have hLe:L=L.take k++(g.bl++Y):=by rw[←hL,List.take_append_drop]
   unfold execOp;rw[hop];simp only[resolve,hcl,hat,har];have hm':Array.map (evT tmps) #[x,y]=#[g.val,yv]:=by simp[hr.ev hx,hr.ev hy]
   rw[hm'];have hst0:=hst;rw[hLe] at hst0;have hst2:SymSt H₀ ((L.take k++Y)++g.bl) H:=hst0.perm (mid_perm _ _ _);refine vwp_bind (Builtin.append_ #[t,xt] o.type #[g.val,yv]) _ ?_;refine vwp_append ht hds hre hsz (Nat.eq_of_beq_eq_true hzs) ⟨rx,ex,hxt,hex⟩ (Nat.le_of_ble_eq_true hby) hm (fun z hz=> hst2.at_ z (by simp[hz])) (hsrc H hst) hs fun g' H' h1 h2 h3 h4 h5=> ?_;exact⟨_,rfl,_,(hst2.grown h3 h4 h5).perm (by rw[List.append_assoc]),hk g' h1 h2⟩
end
end Go.RL
namespace Go.Proofs.YtdnfdeplcjaonaaGreatDoor
open Go.RL Go.Proofs.Tryz
set_option maxRecDepth 10000
set_option maxHeartbeats 16000000
def Bk.add(k:Bk)(nm num:List UInt8)(nf:Nat)(fr:Nat→Int):Bk:=
 { k with nl:=k.nl+1,name:=fun i=> if i=k.nl then nm else k.name i,num:=fun i=> if i=k.nl then num else k.num i,nf:=fun i=> if i=k.nl then nf else k.nf i,free:=fun i=> if i=k.nl then fr else k.free i }
theorem book_of {H':View}(k:Bk)(F:Nat→Option Addr)(fc:Nat→Nat)(l:List (Gl 38 1))(lb:Nat)(gj:List Value)(gc:Nat)(B2:Option Addr)(tc2:Nat)(hlb:H' lb=some (true,.cells ⟨flatR k.nl (rowL k (addrOf l F) (capOf l fc))++gj⟩ 64 (0,0)))(hgc:k.nl≤gc)
   (hT:SrcAt H' 4 (.slice B2 k.nt tc2) k.nt (flatR k.nt (trainL k))) (htc:k.nt≤tc2) (hl:l.length=k.nl) (hlg:∀i g,l[i]? =some g→g.l=flatR (k.nf i) (freeL (k.free i))∧g.n=k.nf i) (hbl:∀x∈blsOf l,H' x.1=some x.2):
   BookAt H' k (some ⟨lb,0,none⟩) gc B2 tc2 (addrOf l F) (capOf l fc):=by
 refine⟨hgc,htc,?_,hT,fun i hi=> ?_,fun i hi=> ?_⟩
 · exact src_flat (f:=rowL k (addrOf l F) (capOf l fc)) (sz:=3) (n:=k.nl) (c:=gc) (b:=lb) (fun _=> rfl) hlb
 · have h1:l[i]? =some l[i]:=List.getElem?_eq_getElem (by omega);have h2:=hlg i _ h1;unfold capOf;rw[h1];have:=(l[i]).hc;simp only;omega
 · have hil:i<l.length:=by omega
   have h1:l[i]? =some l[i]:=List.getElem?_eq_getElem hil;have h2:=hlg i _ h1;have h3:=(l[i]).src (H:=H') (fun y hy=> hbl y (List.mem_flatMap.2 ⟨_,List.getElem_mem hil,hy⟩));rw[h2.1,h2.2] at h3;have h4:Gl.val l[i]=.slice (addrOf l F i) (k.nf i) (capOf l fc i):=by
     unfold addrOf capOf;rw[h1,←h2.2];rfl
   rw[←h4];exact h3
section
variable(M:Md prog)(H:View)
theorem Add_alarm(k:Bk)(A:Option Addr)(lc:Nat)(B:Option Addr)(tc:Nat)(hk:BkAt H k A lc B tc)(hn:k.small)(hG:Glob H)(ha:k.alarm≠0)(nm num:List UInt8)(Fa:Option Addr)(nf fca:Nat):
   CallT M 65 #[k.val A lc B tc,lineV nm num Fa nf fca] H (fun v H'=> H.le H'∧v=noBook k.alarm):=by
 refine .en func65 ntmps65 fun St c cs hK=> ?_;refine U2 ?_;refine .bo fun b2=> ?_;refine .bo fun b3=> ?_;refine .al fun b4=> ?_;refine U6 ?_;refine .c rfl rfl rfl rfl (fun H hs=> .h (open_alarm M H k A lc B tc _ (hk.le hs.base) hn (glob_le hG hs.base) ha)) ?_;refine U3 ?_;refine .al fun b6=> ?_;refine U16 ?_;refine .rt hK func65 results65 [_,_] ?_;exact okB
theorem Add_c(k:Bk)(A:Option Addr)(lc:Nat)(B:Option Addr)(tc:Nat)(F:Nat→Option Addr)(fc:Nat→Nat)(hB:BookAt H k A lc B tc F fc)(hn:k.small)(hG:Glob H)(ha:k.alarm=0)(nm num:List UInt8)(Fa:Option Addr)(nf fca:Nat)(fr:Nat→Int)(hnum:num.length≤1000000)(hnf:nf≤1000)(hFa:SrcAt H 1 (.slice Fa nf fca) nf (flatR nf (freeL fr))):
   CallT M 65 #[k.val A lc B tc,lineV nm num Fa nf fca] H (fun v H'=> H.le H'∧(((k.add nm num nf fr).alarm≠0∧v=noBook (k.add nm num nf fr).alarm)∨((k.add nm num nf fr).alarm=0∧∃A' lc' B' tc' F' fc',v=bookV ((k.add nm num nf fr).val A' lc' B' tc') 0∧BookAt H' (k.add nm num nf fr) A' lc' B' tc' F' fc'))):=by
 have hk:=hB.bk;obtain⟨_,hnl6,hnt6,_⟩:=Bk.valid ha;generalize h2:k.add nm num nf fr=k2;have e_nl:k2.nl=k.nl+1:=by rw[←h2];rfl
 have e_nt:k2.nt=k.nt:=by rw[←h2];rfl
 have e_gap:k2.gap=k.gap:=by rw[←h2];rfl
 have e_give:k2.give=k.give:=by rw[←h2];rfl
 have e_tr:trainL k2=trainL k:=by rw[←h2];rfl
 obtain⟨F2,hF2⟩:∃F2:Nat→Option Addr,F2=fun i=> if i=k.nl then Fa else F i:=⟨_,rfl⟩
 obtain⟨fc2,hfc2⟩:∃fc2:Nat→Nat,fc2=fun i=> if i=k.nl then fca else fc i:=⟨_,rfl⟩
 have e_row:flatR k.nl (rowL k F fc)++[strV nm,strV num,.slice Fa nf fca]=flatR (k.nl+1) (rowL k2 F2 fc2):=by
   rw[flatR_succ]
   congr 1
   · refine flatR_congr _ fun i hi=> ?_;have:i≠k.nl:=by omega
     simp only[rowL,←h2,Bk.add,hF2,hfc2,if_neg this]
   · rw[←h2,hF2,hfc2];simp[rowL,Bk.add]
 have e_nf:∀i,i<k.nl+1→k2.nf i≤1000:=by
   intro i hi;rw[←h2];show(if i=k.nl then nf else k.nf i)≤1000;split
   · exact hnf
   · exact(hn.num i (by omega)).2
 have e_free:∀i,i<k.nl+1→SrcAt H 1 (.slice (F2 i) (k2.nf i) (fc2 i)) (k2.nf i) (flatR (k2.nf i) (freeL (k2.free i))):=by
   intro i hi;rw[←h2,hF2,hfc2];by_cases c:i=k.nl
   · simp only[Bk.add,if_pos c];exact hFa
   · simp only[Bk.add,if_neg c];exact hB.free i (by omega)
 have hsm2:k2.small:=⟨by omega,by rw[e_nt];exact hn.nt,fun i hi=> ⟨by
   rw[←h2];show(if i=k.nl then num else k.num i).length≤_;split
   · exact hnum
   · exact(hn.num i (by omega)).1,e_nf i (by omega)⟩⟩
 clear hF2 hfc2 h2;refine .en func65 ntmps65 fun St c cs hK=> ?_;refine U2 ?_;refine .bo fun b2=> ?_;refine .bo fun b3=> ?_;refine .al fun b4=> ?_;refine U6 ?_;refine .c rfl rfl rfl rfl (fun H hs=> .h (open_yes M H k A lc B tc (hk.le hs.base) hn (glob_le hG hs.base) ha)) ?_;refine U3 ?_;refine .al fun b6=> ?_;refine U11 ?_;refine Tc.via (fun R' L'=> ∃(g1:Gl 64 3) (g2:Gl 47 4),((g1.n=k.nl+1∧g1.l=flatR (k.nl+1) (rowL k2 F2 fc2))∧(g2.n=k.nt∧g2.l=flatR k.nt (trainL k)))∧AllIn [(2,.pointer (some ⟨b2,0,none⟩)),(4,.pointer (some ⟨b4,0,none⟩))] R'∧List.Sublist ([(b4,true,.cells ⟨[.int .i64 0,.int .i64 0,.slice none 0 0,.slice none 0 0]⟩ 25 (0,0)),(b2,true,.cells ⟨[.int .i64 k.gap,.int .i64 k.give,g1.val,g2.val]⟩ 25 (0,0))]++(g1.bl++g2.bl)) L') ?_ (fun fin=> ?_)
 rotate_left
 · refine Tc.dr [10,12] [3] mixed rfl ?_;refine .nn 0 ?_;refine .nn 1 ?_;refine .nn 3 ?_;refine .nn 6 ?_;refine .nn 7 ?_;refine Ta.each [2,4] (by kernel_rfl) rfl ⟨TaOp.mk rfl rfl rfl (Or.callNew Gl.val Gl.bl (fun g:Gl 64 3=> g.l=flatR k.nl (rowL k F fc)∧g.n=k.nl) rfl rfl rfl rfl rfl (by decide) gl_nodup (fun H₁ hs₁=> .h (clone138_c M H₁ A k.nl lc _ (by omega) (hB.rows.mono hs₁.base) (flatR_single (rowL_single k F fc) _))) (fun g hg=> ⟨S2.mk (by exact List.sublist_append_left _ _) (.inr (by exact List.sublist_append_left _ _)),?_⟩)),TaOp.mk rfl rfl rfl (.bs (zz:=fun bs=> ⟨S2.mk (by apply List.Sublist.cons;exact List.sublist_append_left _ _) (.inr (by apply List.Sublist.cons;exact List.Sublist.refl _)),?_⟩)),trivial⟩
   · refine Ta.each [4] (by kernel_rfl) rfl ⟨TaOp.mk rfl rfl rfl (.bs (zz:=fun bs=> ⟨S2.mk (by apply List.Sublist.cons;exact List.sublist_append_left _ _) (.inr (by apply List.Sublist.cons;exact List.sublist_append_left _ _)),?_⟩)),trivial⟩;refine Ta.each [5] (by kernel_rfl) rfl ⟨TaOp.mk rfl rfl rfl (Or.append (E:=en) (g:=g) (m:=1) (new:= [strV nm,strV num,.slice Fa nf fca]) (yv:=.slice (some ⟨bs,0,none⟩) 1 1) 5 rfl rfl rfl rfl rfl rfl rfl rfl rfl rfl rfl rfl rfl rfl rfl (fun H hs=> SrcAt.of (hs.get (i:=0) rfl) (Nat.le_of_ble_eq_true rfl)) rfl (by omega) rfl (by decide) (fun g1 hn1 hl1=> ⟨S2.mk (by apply List.Sublist.cons;exact List.sublist_append_left _ _) (.inr (by apply List.Sublist.cons;exact List.sublist_append_left _ _)),?_⟩)),trivial⟩;refine .nn 9 ?_;refine Ta.each [8] (by kernel_rfl) rfl ⟨TaOp.mk rfl rfl rfl (Or.callNew Gl.val Gl.bl (fun g:Gl 47 4=> g.l=flatR k.nt (trainL k)∧g.n=k.nt) rfl rfl rfl rfl rfl (by decide) gl_nodup (fun H₁ hs₁=> .h (clone139_c M H₁ B k.nt tc _ (by omega) (hB.trains.mono hs₁.base) (flatR_single (trainL_single k) _))) (fun g2 hg2=> ⟨S2.mk (by apply List.Sublist.cons;exact List.sublist_append_left _ _) (.inr (by apply List.Sublist.cons;exact List.sublist_append_left _ _)),?_⟩)),trivial⟩;refine .e 10 4 ?_;refine .nw 11 ?_;refine .e 12 4 ?_;refine .dn ?_;exact fin _ _ ⟨g1,g2,⟨⟨by omega,by rw[hl1,hg.1,e_row]⟩,hg2.2,hg2.1⟩,⟨rfl,rfl,trivial⟩,(by apply List.Sublist.cons;apply List.Sublist.cons;apply List.Sublist.cons_cons;apply List.Sublist.cons;exact List.Sublist.refl _)⟩
   · refine Ta.each [2] (by kernel_rfl) rfl ⟨TaOp.mk rfl rfl rfl (Or.callNew Gl.val Gl.bl (fun g:Gl 64 3=> g.l=flatR k.nl (rowL k F fc)∧g.n=k.nl) rfl rfl rfl rfl rfl (by decide) gl_nodup (fun H₁ hs₁=> .h (clone138_c M H₁ A k.nl lc _ (by omega) (hB.rows.mono hs₁.base) (flatR_single (rowL_single k F fc) _))) (fun g hg=> ⟨S2.mk (by apply List.Sublist.cons;exact List.sublist_append_left _ _) (.inr (by apply List.Sublist.cons;exact List.sublist_append_left _ _)),?_⟩)),trivial⟩;refine Ta.each [5] (by kernel_rfl) rfl ⟨TaOp.mk rfl rfl rfl (Or.append (E:=en) (g:=g) (m:=1) (new:= [strV nm,strV num,.slice Fa nf fca]) (yv:=.slice (some ⟨bs,0,none⟩) 1 1) 5 rfl rfl rfl rfl rfl rfl rfl rfl rfl rfl rfl rfl rfl rfl rfl (fun H hs=> SrcAt.of (hs.get (i:=0) rfl) (Nat.le_of_ble_eq_true rfl)) rfl (by omega) rfl (by decide) (fun g1 hn1 hl1=> ⟨S2.mk (by apply List.Sublist.cons;exact List.sublist_append_left _ _) (.inr (by apply List.Sublist.cons;exact List.sublist_append_left _ _)),?_⟩)),trivial⟩;refine .nn 9 ?_;refine Ta.each [8] (by kernel_rfl) rfl ⟨TaOp.mk rfl rfl rfl (Or.callNew Gl.val Gl.bl (fun g:Gl 47 4=> g.l=flatR k.nt (trainL k)∧g.n=k.nt) rfl rfl rfl rfl rfl (by decide) gl_nodup (fun H₁ hs₁=> .h (clone139_c M H₁ B k.nt tc _ (by omega) (hB.trains.mono hs₁.base) (flatR_single (trainL_single k) _))) (fun g2 hg2=> ⟨S2.mk (by apply List.Sublist.cons;exact List.sublist_append_left _ _) (.inr (by apply List.Sublist.cons;exact List.sublist_append_left _ _)),?_⟩)),trivial⟩;refine .e 10 4 ?_;refine .nw 11 ?_;refine .e 12 4 ?_;refine .dn ?_;exact fin _ _ ⟨g1,g2,⟨⟨by omega,by rw[hl1,hg.1,e_row]⟩,hg2.2,hg2.1⟩,⟨rfl,rfl,trivial⟩,(by apply List.Sublist.cons;apply List.Sublist.cons;apply List.Sublist.cons_cons;apply List.Sublist.cons;exact List.Sublist.refl _)⟩
 rintro R' L' ⟨g1,g2,⟨⟨n1,l1⟩,n2,l2⟩,hR,hL⟩;refine Tc.dropB (R':= [(2,.pointer (some ⟨b2,0,none⟩)),(4,.pointer (some ⟨b4,0,none⟩))]) (L':= [(b4,true,.cells ⟨[.int .i64 0,.int .i64 0,.slice none 0 0,.slice none 0 0]⟩ 25 (0,0)),(b2,true,.cells ⟨[.int .i64 k.gap,.int .i64 k.give,g1.val,g2.val]⟩ 25 (0,0))]++(g1.bl++g2.bl)) ?_ hR hL;clear hR hL;have hT2:∀H':View,(∀x∈g2.bl,H' x.1=some x.2)→SrcAt H' 4 (.slice (g2.blk.map fun b=> ⟨b,0,none⟩) k2.nt g2.cap) k2.nt (flatR k2.nt (trainL k2)):=fun H' h=> by
   have:=g2.src h;rw[e_tr,e_nt];rw[l2,n2] at this;unfold Gl.val at this;rw[n2] at this;exact this
 have hgv2:g2.val=.slice (g2.blk.map fun b=> ⟨b,0,none⟩) k2.nt g2.cap:=by unfold Gl.val;rw[n2,e_nt]
 have htc2:k2.nt≤g2.cap:=by have:=g2.hc;omega
 rw[hgv2];generalize (g2.blk.map fun b=> (⟨b,0,none⟩:Addr))=B2 at hT2;generalize g2.cap=tc2 at hT2 htc2;generalize g2.bl=T2 at hT2;clear hgv2 n2 l2;obtain⟨gb,gn,gc,gl,gj,hgl,hgc,hgj,hg0⟩:=g1;simp only at n1 l1;rw[←e_nl] at n1 l1;subst n1;subst l1;cases gb with
 | none=>
   have:=hg0 rfl;omega
 | some lb=>
 rw[←e_nl] at e_nf e_free;have hout:∀(l:List (Gl 38 1)),l.length=k2.nl→(∀i g,l[i]? =some g→g.l=flatR (k2.nf i) (freeL (k2.free i))∧g.n=k2.nf i)→∀H':View,(∀x∈([(b2,true,.cells ⟨[.int .i64 k.gap,.int .i64 k.give,.slice (some ⟨lb,0,none⟩) k2.nl gc,.slice B2 k2.nt tc2]⟩ 25 (0,0)),(lb,true,.cells ⟨flatR k2.nl (rowL k2 (addrOf l F2) (capOf l fc2))++gj⟩ 64 (0,0))]++(T2++blsOf l):Bl),H' x.1=some x.2)→
     BookAt H' k2 (some ⟨lb,0,none⟩) gc B2 tc2 (addrOf l F2) (capOf l fc2):=fun l h1 h2 H' h=> book_of k2 F2 fc2 l lb gj gc B2 tc2 (h (lb,true,_) (by simp)) hgc (hT2 H' fun x hx=> h x (by simp[hx])) htc2 h1 h2 (fun x hx=> h x (by simp[hx]))
 refine U9 ?_;refine Tc.dropB (Tc.loopInv (σ:= { l:List (Gl 38 1)//l.length≤k2.nl∧∀i g,l[i]? =some g→g.l=flatR (k2.nf i) (freeL (k2.free i))∧g.n=k2.nf i })
   (fun l=> ([(2,.pointer (some ⟨b2,0,none⟩)),(4,.pointer (some ⟨b4,0,none⟩)),(32,.int .i64 (k2.nl:Nat)),(33,.int .i64 (l.1.length:Nat))],
     [(b4,true,.cells ⟨[.int .i64 0,.int .i64 0,.slice none 0 0,.slice none 0 0]⟩ 25 (0,0)),(b2,true,.cells ⟨[.int .i64 k.gap,.int .i64 k.give,.slice (some ⟨lb,0,none⟩) k2.nl gc,.slice B2 k2.nt tc2]⟩ 25 (0,0)),(lb,true,.cells ⟨flatR k2.nl (rowL k2 (addrOf l.1 F2) (capOf l.1 fc2))++gj⟩ 64 (0,0))]++(T2++blsOf l.1))) (fun l=> k2.nl-l.1.length) ?_ ⟨[],Nat.zero_le _,by simp⟩) ⟨rfl,rfl,rfl,rfl,trivial⟩ (by show List.Sublist (_::_::_::(T2++[])) _;rw[List.append_nil];exact List.Sublist.refl _)
 rintro⟨l,hll,hlg⟩ ih;show Tc M St _ _ _ _ [(2,.pointer (some ⟨b2,0,none⟩)),(4,.pointer (some ⟨b4,0,none⟩)),(32,.int .i64 (k2.nl:Nat)),(33,.int .i64 (l.length:Nat))]
     ([(b4,true,.cells ⟨[.int .i64 0,.int .i64 0,.slice none 0 0,.slice none 0 0]⟩ 25 (0,0)),(b2,true,.cells ⟨[.int .i64 k.gap,.int .i64 k.give,.slice (some ⟨lb,0,none⟩) k2.nl gc,.slice B2 k2.nt tc2]⟩ 25 (0,0)),(lb,true,.cells ⟨flatR k2.nl (rowL k2 (addrOf l F2) (capOf l fc2))++gj⟩ 64 (0,0))]++(T2++blsOf l)) _ _
 by_cases c1:l.length=k2.nl
 · have hout1:=hout l c1 hlg;have hval:k2.val (some ⟨lb,0,none⟩) gc B2 tc2=.agg ⟨[.int .i64 k.gap,.int .i64 k.give,.slice (some ⟨lb,0,none⟩) k2.nl gc,.slice B2 k2.nt tc2]⟩:=by unfold Bk.val;rw[e_gap,e_give]
   have hchk:=fun(H':View) (h:H.le H') (hb:BookAt H' k2 (some ⟨lb,0,none⟩) gc B2 tc2 (addrOf l F2) (capOf l fc2))=> CheckBook_c M H' k2 (some ⟨lb,0,none⟩) gc B2 tc2 hb.bk hsm2 (glob_le hG h);rw[hval] at hchk;rw[c1];by_cases c2:k2.alarm=0
   · rw[c2] at hchk;refine U11 ?_;refine .c rfl rfl rfl rfl (fun H hs=> .h (hchk H hs.base (hout1 H (fun x hx=> hs.at_ x (List.mem_cons_of_mem _ hx))))) ?_;refine U15 ?_;refine .rt hK func65 results65 [_,_] ?_;refine fun H' hs=> ⟨hs.base,.inr ⟨c2,some ⟨lb,0,none⟩,gc,B2,tc2,addrOf l F2,capOf l fc2,by unfold bookV;rw[hval];rfl,hout1 H' (fun x hx=> hs.at_ x (List.mem_cons_of_mem _ hx))⟩⟩
   · refine U11 ?_;refine .c rfl rfl rfl rfl (fun H hs=> .h (hchk H hs.base (hout1 H (fun x hx=> hs.at_ x (List.mem_cons_of_mem _ hx))))) ?_;refine U15 ?_;refine .rt hK func65 results65 [_,_] ?_;exact fun H' hs=> ⟨hs.base,.inl ⟨c2,rfl⟩⟩
 · have c2:l.length<k2.nl:=by omega
   have f1:ldL false 1 (flatR k2.nl (rowL k2 (addrOf l F2) (capOf l fc2))++gj) (0+((l.length:Nat):Int).toNat*3+2)=some (.slice (F2 l.length) (k2.nf l.length) (fc2 l.length)):=by
     show _[_]? =_;rw[Nat.zero_add,Int.toNat_natCast,flatR_cell (f:=rowL k2 (addrOf l F2) (capOf l fc2)) (sz:=3) (d:=2) (fun _=> rfl) c2 (by decide)];simp[rowL,addrOf,capOf]
   have f2:Nat.ble (0+((l.length:Nat):Int).toNat*3+2+1) (flatR k2.nl (rowL k2 (addrOf l F2) (capOf l fc2))++gj).length=true:=by
     refine Nat.ble_eq_true_of_le ?_;rw[List.length_append,flatR_len (f:=rowL k2 (addrOf l F2) (capOf l fc2)) (sz:=3) (fun _=> rfl),Int.toNat_natCast];omega
   refine U14 ?_;refine Tc.dr [12] [2] mixed rfl ?_;refine .nn 0 ?_;refine .nn 1 ?_;refine .nn 2 ?_;refine .nn 3 ?_;refine .nn 4 ?_;refine .nn 5 ?_;refine .nn 6 ?_;refine .nn 7 ?_;refine .nn 8 ?_;refine Ta.each [9] (by kernel_rfl) rfl ⟨TaOp.mk rfl rfl rfl (Or.callNew Gl.val Gl.bl (fun g:Gl 38 1=> g.l=flatR (k2.nf l.length) (freeL (k2.free l.length))∧g.n=k2.nf l.length) rfl rfl rfl rfl rfl (by decide) gl_nodup (fun H₁ hs₁=> .h (clone140_c M H₁ (F2 l.length) (k2.nf l.length) (fc2 l.length) _ (by have:=e_nf _ c2;omega) ((e_free _ c2).mono hs₁.base) (flatR_single (freeL_single (k2.free l.length)) _))) (fun g hg=> ⟨S2.mk (by apply List.Sublist.cons_cons;apply List.Sublist.cons_cons;apply List.Sublist.cons;exact List.sublist_append_left _ _) (.inr (by exact List.sublist_append_left _ _)),?_⟩)),trivial⟩;refine .nw 10 ?_;refine .nn 11 ?_;refine .e 12 2 ?_;refine .dn ?_;refine U5 ?_;have hst:stL (flatR k2.nl (rowL k2 (addrOf l F2) (capOf l fc2))++gj) (0+((l.length:Nat):Int).toNat*3+2) (Gl.val g).cells.toList=flatR k2.nl (rowL k2 (addrOf (l++[g]) F2) (capOf (l++[g]) fc2))++gj:=by
     rw[Nat.zero_add,Int.toNat_natCast];refine flatR_st (f:=rowL k2 (addrOf l F2) (capOf l fc2)) (sz:=3) (d:=2) (fun _=> rfl) c2 (by decide) gj (Gl.val g) (fun i _ hi=> ?_) ?_
     · by_cases h1:i<l.length
       · simp only[rowL,addrOf,capOf,List.getElem?_append_left h1]
       · simp only[rowL,addrOf,capOf];rw[List.getElem?_eq_none (by simp;omega),List.getElem?_eq_none (by omega)]
     · simp only[rowL,addrOf,capOf,List.getElem?_concat_length];rw[←hg.2];rfl
   have hbl:blsOf (l++[g])=blsOf l++g.bl:=by simp[blsOf]
   refine Tc.dropB (ih ⟨l++[g],by simp;omega,fun i g' hi=> ?_⟩ (by simp;omega)) ?_ ?_
   · by_cases h1:i<l.length
     · rw[List.getElem?_append_left h1] at hi;exact hlg i g' hi
     · by_cases h2:i=l.length
       · subst h2;rw[List.getElem?_concat_length] at hi;cases hi
         exact hg
       · rw[List.getElem?_eq_none (by simp;omega)] at hi;cases hi
   · refine⟨rfl,rfl,rfl,?_,trivial⟩;have hlen:(((l++[g]).length:Nat):Int)=(l.length:Nat)+1:=by simp
     show _=some (Value.int .i64 (((l++[g]).length:Nat):Int));rw[hlen];rfl
   · show List.Sublist (_++(T2++blsOf (l++[g]))) _;rw[hbl,←hst,←List.append_assoc T2,←List.append_assoc];exact List.Sublist.refl _
end
set_option maxHeartbeats 1000000
section
variable(k:Bk)(nm s:List UInt8)(nf:Nat)(fr:Nat→Int)
end
set_option maxHeartbeats 16000000
section
variable(M:Md prog)(H:View)
theorem AddR_alarm(k:Bk)(A:Option Addr)(lc:Nat)(B:Option Addr)(tc:Nat)(hk:BkAt H k A lc B tc)(hn:k.small)(hnm:∀i,i<k.nl→(k.name i).length≤1000000)(ha:k.alarm≠0)(nm num:List UInt8)(Fa:Option Addr)(nf fca:Nat):
   CallT M 66 #[k.val A lc B tc,lineV nm num Fa nf fca] H (fun v H'=> H.le H'∧v=noBook k.alarm):=by
 have hchk:=fun(H':View) (h:H.le H')=> refCheckBook_c M H' k A lc B tc (hk.le h) hn hnm;generalize k.alarm=al at ha hchk ⊢;refine .en func66 ntmps66 fun St c cs hK=> ?_;refine U2 ?_;refine .bo fun b2=> ?_;refine .bo fun b3=> ?_;refine .al fun b4=> ?_;refine U6 ?_;refine .c rfl rfl rfl rfl (fun H hs=> .h (hchk H hs.base)) ?_;refine U15 ?_;refine .rt hK func66 results66 [_,_] ?_;exact okB
theorem AddR_c(k:Bk)(A:Option Addr)(lc:Nat)(B:Option Addr)(tc:Nat)(F:Nat→Option Addr)(fc:Nat→Nat)(hB:BookAt H k A lc B tc F fc)(hn:k.small)(hnm:∀i,i<k.nl→(k.name i).length≤1000000)(ha:k.alarm=0)(nm num:List UInt8)(Fa:Option Addr)(nf fca:Nat)(fr:Nat→Int)(hnml:nm.length≤1000000)(hnum:num.length≤1000000)(hnf:nf≤1000)(hfa:nf≤fca)(hFa:SrcAt H 1 (.slice Fa nf fca) nf (flatR nf (freeL fr))):
   CallT M 66 #[k.val A lc B tc,lineV nm num Fa nf fca] H (fun v H'=> H.le H'∧(((k.add nm num nf fr).alarm≠0∧v=noBook (k.add nm num nf fr).alarm)∨((k.add nm num nf fr).alarm=0∧∃A' lc' B' tc' F' fc',v=bookV ((k.add nm num nf fr).val A' lc' B' tc') 0∧BookAt H' (k.add nm num nf fr) A' lc' B' tc' F' fc'))):=by
 have hk:=hB.bk;obtain⟨_,hnl6,hnt6,_⟩:=Bk.valid ha;have hchk:=fun(H':View) (h:H.le H')=> isV (refCheckBook_c M H' k A lc B tc (hk.le h) hn hnm) (w':=.int .i64 0) (by rw[ha]);generalize h2:k.add nm num nf fr=k2;have e_nl:k2.nl=k.nl+1:=by rw[←h2];rfl
 have e_nt:k2.nt=k.nt:=by rw[←h2];rfl
 have e_gap:k2.gap=k.gap:=by rw[←h2];rfl
 have e_give:k2.give=k.give:=by rw[←h2];rfl
 have e_tr:trainL k2=trainL k:=by rw[←h2];rfl
 obtain⟨F2,hF2⟩:∃F2:Nat→Option Addr,F2=fun i=> if i=k.nl then Fa else F i:=⟨_,rfl⟩
 obtain⟨fc2,hfc2⟩:∃fc2:Nat→Nat,fc2=fun i=> if i=k.nl then fca else fc i:=⟨_,rfl⟩
 have e_row:flatR k.nl (rowL k F fc)++[strV nm,strV num,.slice Fa nf fca]=flatR (k.nl+1) (rowL k2 F2 fc2):=by
   rw[flatR_succ]
   congr 1
   · refine flatR_congr _ fun i hi=> ?_;have:i≠k.nl:=by omega
     simp only[rowL,←h2,Bk.add,hF2,hfc2,if_neg this]
   · rw[←h2,hF2,hfc2];simp[rowL,Bk.add]
 have e_nf:∀i,i<k.nl+1→k2.nf i≤1000:=by
   intro i hi;rw[←h2];show(if i=k.nl then nf else k.nf i)≤1000;split
   · exact hnf
   · exact(hn.num i (by omega)).2
 have e_free:∀i,i<k.nl+1→k2.nf i≤fc2 i∧SrcAt H 1 (.slice (F2 i) (k2.nf i) (fc2 i)) (k2.nf i) (flatR (k2.nf i) (freeL (k2.free i))):=by
   intro i hi;rw[←h2,hF2,hfc2];by_cases c:i=k.nl
   · simp only[Bk.add,if_pos c];exact⟨hfa,hFa⟩
   · simp only[Bk.add,if_neg c];exact⟨hB.hfc i (by omega),hB.free i (by omega)⟩
 have hsm2:k2.small:=⟨by omega,by rw[e_nt];exact hn.nt,fun i hi=> ⟨by
   rw[←h2];show(if i=k.nl then num else k.num i).length≤_;split
   · exact hnum
   · exact(hn.num i (by omega)).1,e_nf i (by omega)⟩⟩
 have hnm2:∀i,i<k2.nl→(k2.name i).length≤1000000:=by
   intro i hi;rw[←h2];show(if i=k.nl then nm else k.name i).length≤_;split
   · exact hnml
   · exact hnm i (by omega)
 clear hF2 hfc2 h2;refine .en func66 ntmps66 fun St c cs hK=> ?_;refine U2 ?_;refine .bo fun b2=> ?_;refine .bo fun b3=> ?_;refine .al fun b4=> ?_;refine U6 ?_;refine .c rfl rfl rfl rfl (fun H hs=> .h (hchk H hs.base)) ?_;refine U12 ?_;refine .al fun b7=> ?_;refine U3 ?_;refine Tc.via (fun R' L'=> ∃g:Gl 64 3,(g.n=k.nl+1∧g.l=flatR (k.nl+1) (rowL k2 F2 fc2))∧AllIn [(4,.pointer (some ⟨b4,0,none⟩)),(7,.pointer (some ⟨b7,0,none⟩))] R'∧List.Sublist ([(b7,true,.cells ⟨[.int .i64 k.gap,.int .i64 k.give,g.val,.slice B k.nt tc]⟩ 25 (0,0)),(b4,true,.cells ⟨[.int .i64 0,.int .i64 0,.slice none 0 0,.slice none 0 0]⟩ 25 (0,0))]++g.bl) L') ?_ (fun fin=> ?_)
 rotate_left
 · refine Tc.dr [3,6,8] [0] mixed rfl ?_;refine .nw 1 ?_;refine .nw 2 ?_;refine .nw 4 ?_;refine Ta.each [0,5] (by kernel_rfl) rfl ⟨TaOp.mk rfl rfl rfl (.bs (zz:=fun bs0=> ⟨S2.mk (by apply List.Sublist.cons;apply List.Sublist.cons;exact List.Sublist.refl _) (.inr (by apply List.Sublist.cons;exact List.Sublist.refl _)),?_⟩)),TaOp.mk rfl rfl rfl (.bs (zz:=fun bs1=> ⟨S2.mk (by apply List.Sublist.cons;apply List.Sublist.cons;exact List.Sublist.refl _) (.inr (by apply List.Sublist.cons;exact List.Sublist.refl _)),?_⟩)),trivial⟩
   · refine Ta.each [3,5] (by kernel_rfl) rfl ⟨TaOp.mk rfl rfl rfl (Or.appendEnd (E:=en) (g:=Gl.emp 64 3 bs0) (m:=k.nl) (new:=flatR k.nl (rowL k F fc)) 0 [(b7,true,.cells ⟨(k.val A lc B tc).cells.toList⟩ 25 (0,0)),(b4,true,.cells ⟨[.int .i64 0,.int .i64 0,.slice none 0 0,.slice none 0 0]⟩ 25 (0,0)),(b3,true,.cells ⟨[strV nm,strV num,.slice Fa nf fca]⟩ 64 (0,0)),(b2,true,.cells ⟨(k.val A lc B tc).cells.toList⟩ 25 (0,0))] rfl rfl rfl rfl rfl rfl rfl rfl rfl rfl rfl rfl rfl rfl rfl (fun H hs=> hB.rows.mono hs.base) (flatR_single (rowL_single k F fc) _) (by show 0+_≤_;omega) rfl (by decide) (fun g1 hn1 hl1=> ⟨S2.mk (by apply List.Sublist.cons;exact List.sublist_append_left _ _) (.inl (by kernel_rfl)),?_⟩)),TaOp.mk rfl rfl rfl (.bs (zz:=fun bs1=> ⟨S2.mk (by apply List.Sublist.cons;apply List.Sublist.cons;apply List.Sublist.cons;exact List.Sublist.refl _) (.inr (by apply List.Sublist.cons;apply List.Sublist.cons;exact List.Sublist.refl _)),?_⟩)),trivial⟩
     · refine Ta.each [5] (by kernel_rfl) rfl ⟨TaOp.mk rfl rfl rfl (.bs (zz:=fun bs1=> ⟨S2.mk (by apply List.Sublist.cons;apply List.Sublist.cons;exact List.sublist_append_left _ _) (.inl (by kernel_rfl)),?_⟩)),trivial⟩;refine Ta.each [6] (by kernel_rfl) rfl ⟨TaOp.mk rfl rfl rfl (Or.append (E:=en) (g:=g1) (m:=1) (new:= [strV nm,strV num,.slice Fa nf fca]) (yv:=.slice (some ⟨bs1,0,none⟩) 1 1) 5 rfl rfl rfl rfl rfl rfl rfl rfl rfl rfl rfl rfl rfl rfl rfl (fun H hs=> SrcAt.of (hs.get (i:=0) rfl) (Nat.le_of_ble_eq_true rfl)) rfl (by rw[hn1];show 0+_+1≤_;omega) rfl (by decide) (fun g2 hn2 hl2=> ⟨S2.mk (by apply List.Sublist.cons;apply List.Sublist.cons;exact List.sublist_append_left _ _) (.inl (by kernel_rfl)),?_⟩)),trivial⟩;refine .nw 7 ?_;refine .e 8 1 ?_;refine .dn ?_;exact fin _ _ ⟨g2,⟨by rw[hn2,hn1];show 0+_+1=_;omega,by rw[hl2,hl1];exact e_row⟩,⟨rfl,rfl,trivial⟩,(by apply List.Sublist.cons;apply List.Sublist.cons_cons;apply List.Sublist.cons_cons;apply List.Sublist.cons;apply List.Sublist.cons;exact List.Sublist.refl _)⟩
     · refine Ta.each [3] (by kernel_rfl) rfl ⟨TaOp.mk rfl rfl rfl (Or.appendEnd (E:=en) (g:=Gl.emp 64 3 bs0) (m:=k.nl) (new:=flatR k.nl (rowL k F fc)) 1 [(b7,true,.cells ⟨(k.val A lc B tc).cells.toList⟩ 25 (0,0)),(b4,true,.cells ⟨[.int .i64 0,.int .i64 0,.slice none 0 0,.slice none 0 0]⟩ 25 (0,0)),(b3,true,.cells ⟨[strV nm,strV num,.slice Fa nf fca]⟩ 64 (0,0)),(b2,true,.cells ⟨(k.val A lc B tc).cells.toList⟩ 25 (0,0))] rfl rfl rfl rfl rfl rfl rfl rfl rfl rfl rfl rfl rfl rfl rfl (fun H hs=> hB.rows.mono hs.base) (flatR_single (rowL_single k F fc) _) (by show 0+_≤_;omega) rfl (by decide) (fun g1 hn1 hl1=> ⟨S2.mk (by apply List.Sublist.cons;apply List.Sublist.cons;exact List.sublist_append_left _ _) (.inl (by kernel_rfl)),?_⟩)),trivial⟩;refine Ta.each [6] (by kernel_rfl) rfl ⟨TaOp.mk rfl rfl rfl (Or.append (E:=en) (g:=g1) (m:=1) (new:= [strV nm,strV num,.slice Fa nf fca]) (yv:=.slice (some ⟨bs1,0,none⟩) 1 1) 5 rfl rfl rfl rfl rfl rfl rfl rfl rfl rfl rfl rfl rfl rfl rfl (fun H hs=> SrcAt.of (hs.get (i:=0) rfl) (Nat.le_of_ble_eq_true rfl)) rfl (by rw[hn1];show 0+_+1≤_;omega) rfl (by decide) (fun g2 hn2 hl2=> ⟨S2.mk (by apply List.Sublist.cons;apply List.Sublist.cons;exact List.sublist_append_left _ _) (.inl (by kernel_rfl)),?_⟩)),trivial⟩;refine .nw 7 ?_;refine .e 8 1 ?_;refine .dn ?_;exact fin _ _ ⟨g2,⟨by rw[hn2,hn1];show 0+_+1=_;omega,by rw[hl2,hl1];exact e_row⟩,⟨rfl,rfl,trivial⟩,(by apply List.Sublist.cons;apply List.Sublist.cons_cons;apply List.Sublist.cons_cons;apply List.Sublist.cons;apply List.Sublist.cons;exact List.Sublist.refl _)⟩
   · refine Ta.each [0] (by kernel_rfl) rfl ⟨TaOp.mk rfl rfl rfl (.bs (zz:=fun bs0=> ⟨S2.mk (by apply List.Sublist.cons;apply List.Sublist.cons;apply List.Sublist.cons;exact List.Sublist.refl _) (.inr (by apply List.Sublist.cons;apply List.Sublist.cons;exact List.Sublist.refl _)),?_⟩)),trivial⟩;refine Ta.each [3] (by kernel_rfl) rfl ⟨TaOp.mk rfl rfl rfl (Or.appendEnd (E:=en) (g:=Gl.emp 64 3 bs0) (m:=k.nl) (new:=flatR k.nl (rowL k F fc)) 0 [(bs1,true,.cells ⟨[strV nm,strV num,.slice Fa nf fca]⟩ 64 (0,0)),(b7,true,.cells ⟨(k.val A lc B tc).cells.toList⟩ 25 (0,0)),(b4,true,.cells ⟨[.int .i64 0,.int .i64 0,.slice none 0 0,.slice none 0 0]⟩ 25 (0,0)),(b3,true,.cells ⟨[strV nm,strV num,.slice Fa nf fca]⟩ 64 (0,0)),(b2,true,.cells ⟨(k.val A lc B tc).cells.toList⟩ 25 (0,0))] rfl rfl rfl rfl rfl rfl rfl rfl rfl rfl rfl rfl rfl rfl rfl (fun H hs=> hB.rows.mono hs.base) (flatR_single (rowL_single k F fc) _) (by show 0+_≤_;omega) rfl (by decide) (fun g1 hn1 hl1=> ⟨S2.mk (by apply List.Sublist.cons;apply List.Sublist.cons;exact List.sublist_append_left _ _) (.inl (by kernel_rfl)),?_⟩)),trivial⟩;refine Ta.each [6] (by kernel_rfl) rfl ⟨TaOp.mk rfl rfl rfl (Or.append (E:=en) (g:=g1) (m:=1) (new:= [strV nm,strV num,.slice Fa nf fca]) (yv:=.slice (some ⟨bs1,0,none⟩) 1 1) 5 rfl rfl rfl rfl rfl rfl rfl rfl rfl rfl rfl rfl rfl rfl rfl (fun H hs=> SrcAt.of (hs.get (i:=0) rfl) (Nat.le_of_ble_eq_true rfl)) rfl (by rw[hn1];show 0+_+1≤_;omega) rfl (by decide) (fun g2 hn2 hl2=> ⟨S2.mk (by apply List.Sublist.cons;apply List.Sublist.cons;exact List.sublist_append_left _ _) (.inl (by kernel_rfl)),?_⟩)),trivial⟩;refine .nw 7 ?_;refine .e 8 1 ?_;refine .dn ?_;exact fin _ _ ⟨g2,⟨by rw[hn2,hn1];show 0+_+1=_;omega,by rw[hl2,hl1];exact e_row⟩,⟨rfl,rfl,trivial⟩,(by apply List.Sublist.cons;apply List.Sublist.cons_cons;apply List.Sublist.cons_cons;apply List.Sublist.cons;apply List.Sublist.cons;exact List.Sublist.refl _)⟩
 rintro R' L' ⟨g,⟨hgn,hgl⟩,hR,hL⟩;refine Tc.dropB ?_ hR hL;clear hR hL;rw[←e_nl] at hgn hgl e_free;have hgv:g.val=.slice (g.blk.map fun b=> ⟨b,0,none⟩) k2.nl g.cap:=by unfold Gl.val;rw[hgn]
 have hB2:∀H':View,H.le H'→(∀x∈g.bl,H' x.1=some x.2)→BookAt H' k2 (g.blk.map fun b=> ⟨b,0,none⟩) g.cap B tc F2 fc2:=fun H' hle hb=> by
   have h1:=g.src (H:=H') hb;have h2:=g.hc;rw[hgv,hgn,hgl] at h1;refine⟨by omega,by rw[e_nt];exact hB.htc,h1,?_,fun i hi=> (e_free i hi).1,fun i hi=> (e_free i hi).2.mono hle⟩;rw[e_tr,e_nt];exact hB.trains.mono hle
 rw[hgv];refine Tc.absorb [(b7,true,.cells ⟨[.int .i64 k.gap,.int .i64 k.give,.slice (g.blk.map fun b=> ⟨b,0,none⟩) k2.nl g.cap,.slice B k.nt tc]⟩ 25 (0,0)),(b4,true,.cells ⟨[.int .i64 0,.int .i64 0,.slice none 0 0,.slice none 0 0]⟩ 25 (0,0))] g.bl (List.Perm.refl _) (fun H₃ hle3 hb3=> ?_);have hB3:=hB2 H₃ hle3 hb3;clear hB2 hgv hgl hgn e_free e_row hb3;generalize (g.blk.map fun b=> (⟨b,0,none⟩:Addr))=A2 at hB3;generalize g.cap=lc2 at hB3;have hchk2:=fun(H':View) (h:H₃.le H')=> refCheckBook_c M H' k2 A2 lc2 B tc (hB3.bk.le h) hsm2 hnm2;have ev:k2.val A2 lc2 B tc=.agg ⟨[.int .i64 k.gap,.int .i64 k.give,.slice A2 k2.nl lc2,.slice B k.nt tc]⟩:=by unfold Bk.val;rw[e_gap,e_give,e_nt]
 rw[ev] at hchk2;by_cases a2:k2.alarm=0
 · rw[a2] at hchk2;refine U4 ?_;refine .c rfl rfl rfl rfl (fun H hs=> .h (hchk2 H hs.base)) ?_;refine U15 ?_;refine .rt hK func66 results66 [_,_] ?_;exact fun H' hs=> ⟨View.le_trans hle3 hs.base,.inr ⟨a2,A2,lc2,B,tc,F2,fc2,by rw[ev];rfl,hB3.le hs.base⟩⟩
 · generalize hal:k2.alarm=al at a2 hchk2;refine U4 ?_;refine .c rfl rfl rfl rfl (fun H hs=> .h (hchk2 H hs.base)) ?_;refine U15 ?_;refine .rt hK func66 results66 [_,_] ?_;exact fun H' hs=> ⟨View.le_trans hle3 hs.base,.inl ⟨by rw[hal];exact a2,by rw[hal];rfl⟩⟩
end
set_option maxHeartbeats 1000000
section
variable {k:Bk}{t:Nat}{x:Quad}
end
set_option maxHeartbeats 8000000
section
variable(M:Md prog)(H:View)
end
section
variable(M:Md prog)(H:View)
end
theorem eg47:prog.eqGuardType prog.depth 47=false:=by kernel_rfl
theorem band_flat(a b:Int):flat en 2 45 [.int .i64 a,.int .i64 b]:=by
 refine⟨rfl,?_⟩;intro f hf;simp only[List.mem_cons,List.not_mem_nil,or_false] at hf;rcases hf with rfl|rfl
 · exact⟨⟨_,rfl⟩,_,rfl,rfl,Nat.le_of_ble_eq_true rfl⟩
 · exact⟨⟨_,rfl⟩,_,rfl,rfl,Nat.le_of_ble_eq_true rfl⟩
theorem train_flat(a b c d:Int):flat en 3 47 [.int .i64 a,.int .i64 b,.int .i64 c,.int .i64 d]:=by
 refine⟨rfl,?_⟩;intro f hf;simp only[List.mem_cons,List.not_mem_nil,or_false] at hf;rcases hf with rfl|rfl
 · exact⟨band_flat a b,_,rfl,rfl,Nat.le_of_ble_eq_true rfl⟩
 · exact⟨band_flat c d,_,rfl,rfl,Nat.le_of_ble_eq_true rfl⟩
section
variable(M:Md prog)(H:View)
theorem SameTrains_c(k:Bk)(B B':Option Addr)(tc tc':Nat)(hB:TrainsAt H k B tc)(hB':TrainsAt H k B' tc')(hn:k.nt≤1000):
   CallT M 71 #[.slice B k.nt tc,.slice B' k.nt tc'] H (fun v H'=> H.le H'∧v=.bool true):=by
 refine .en func71 ntmps71 fun St c cs hK=> ?_;refine U21 ?_;refine Tc.db (Tc.loopInv (σ:= { j:Nat//j≤k.nt }) (fun j=> ([(0,.slice B k.nt tc),(1,.slice B' k.nt tc'),(5,.int .i64 (j.1:Nat))],[])) (fun j=> k.nt-j.1) ?_ ⟨0,Nat.zero_le _⟩);rintro⟨j,hj⟩ ih;show Tc M St _ _ _ _ [(0,.slice B k.nt tc),(1,.slice B' k.nt tc'),(5,.int .i64 (j:Nat))] [] _ _;by_cases c1:j=k.nt
 · subst c1;clear ih;refine U14 ?_;refine .rt hK func71 results71 [_] ?_;exact okB
 · have c2:j<k.nt:=by omega
   obtain⟨_,h0|⟨ab,ao,f,gs,gt,gz,rfl,hb,hl⟩⟩:=hB
   · omega
   obtain⟨_,h0|⟨ab',ao',f',gs',gt',gz',rfl,hb',hl'⟩⟩:=hB'
   · omega
   have f1:=hl j c2;have f2:=hl' j c2;refine U13 ?_;refine Tc.dr [] [] mixed rfl ?_;refine .nn 0 ?_;refine .nn 1 ?_;refine .nn 2 ?_;refine .nn 3 ?_;refine .nn 4 ?_;refine .nn 5 ?_;refine .nn 6 ?_;refine .nn 7 ?_;refine .q 8 rfl (OpV.neA (E:=en) true 3 rfl rfl rfl rfl rfl eg47 (by decide) (train_flat (k.pf j) (k.pt j) (k.qf j) (k.qt j)) (train_flat (k.pf j) (k.pt j) (k.qf j) (k.qt j)) (by simp)) ?_;refine .dn ?_;refine U8 ?_;exact Tc.db (ih ⟨j+1,by omega⟩ (by simp only;omega))
theorem SameLine_c(a s:List UInt8)(F F':Option Addr)(n c' c'':Nat)(x:Nat→Int)(hF:FreeAt H F n x)(hF':FreeAt H F' n x)(hn:n≤1000):
   CallT M 114 #[lineV a s F n c',lineV a s F' n c''] H (fun v H'=> H.le H'∧v=.bool true):=by
 have e1:RL.strB .eql a a=some (.bool true):=by simp[RL.strB]
 have e2:RL.strB .eql s s=some (.bool true):=by simp[RL.strB]
 have h1:=fun(H':View) (h:H.le H')=> SameClaims_c M H' F F' n n c' c'' x x (hF.le h) (hF'.le h) (by omega) (by omega) true (by rw[decide_eq_true rfl,Bool.true_and];exact(allB_iff _).2 fun i _=> decide_eq_true rfl);refine .en func114 ntmps114 fun St c cs hK=> ?_;refine U2 ?_;refine .bo fun b2=> ?_;refine .bo fun b3=> ?_;refine U21 ?_;refine .c rfl rfl rfl rfl (fun H hs=> .h (h1 H hs.base)) ?_;refine U3 ?_;refine .rt hK func114 results114 [_] ?_;exact okB
theorem Same_c(k:Bk)(A A':Option Addr)(lc lc':Nat)(B B':Option Addr)(tc tc':Nat)(hk:BkAt H k A lc B tc)(hk':BkAt H k A' lc' B' tc')(hn:k.small):
   CallT M 37 #[k.val A lc B tc,k.val A' lc' B' tc'] H (fun v H'=> H.le H'∧v=.bool true):=by
 have hnl:=hn.nl;have hst:=fun(H':View) (h:H.le H')=> SameTrains_c M H' k B B' tc tc' (hk.le h).trains (hk'.le h).trains hn.nt;refine .en func37 ntmps37 fun St c cs hK=> ?_;refine U2 ?_;refine .bo fun b2=> ?_;refine .bo fun b3=> ?_;refine U35 ?_;refine Tc.db (Tc.loopInv (σ:= { j:Nat//j≤k.nl }) (fun j=> ([(2,.pointer (some ⟨b2,0,none⟩)),(3,.pointer (some ⟨b3,0,none⟩)),(5,.int .i64 (j.1:Nat))],[(b3,true,.cells ⟨(k.val A' lc' B' tc').cells.toList⟩ 25 (0,0)),(b2,true,.cells ⟨(k.val A lc B tc).cells.toList⟩ 25 (0,0))])) (fun j=> k.nl-j.1) ?_ ⟨0,Nat.zero_le _⟩);rintro⟨j,hj⟩ ih;show Tc M St _ _ _ _ [(2,.pointer (some ⟨b2,0,none⟩)),(3,.pointer (some ⟨b3,0,none⟩)),(5,.int .i64 (j:Nat))] [(b3,true,.cells ⟨(k.val A' lc' B' tc').cells.toList⟩ 25 (0,0)),(b2,true,.cells ⟨(k.val A lc B tc).cells.toList⟩ 25 (0,0))] _ _;by_cases c1:j=k.nl
 · subst c1;clear ih;refine U17 ?_;refine .c rfl rfl rfl rfl (fun H hs=> .h (hst H hs.base)) ?_;refine U2 ?_;refine .rt hK func37 results37 [_] ?_;exact okB
 · have c2:j<k.nl:=by omega
   obtain⟨_,h0|⟨ab,ao,f,gs,gt,gz,rfl,hb,hl⟩⟩:=hk.rows
   · omega
   obtain⟨_,h0|⟨ab',ao',f',gs',gt',gz',rfl,hb',hl'⟩⟩:=hk'.rows
   · omega
   obtain⟨F,fc,f1,_,hF⟩:=hl j c2;obtain⟨F',fc',f2,_,hF'⟩:=hl' j c2;have hsl:=fun(H':View) (h:H.le H')=> SameLine_c M H' (k.name j) (k.num j) F F' (k.nf j) fc fc' (k.free j) (hF.le h) (hF'.le h) (hn.num j c2).2;refine U14 ?_;refine Tc.dr [] [] mixed rfl ?_;refine .nn 0 ?_;refine .nn 1 ?_;refine .nn 2 ?_;refine .nn 3 ?_;refine .nn 4 ?_;refine .nn 5 ?_;refine .nn 6 ?_;refine .nn 7 ?_;refine .nn 8 ?_;refine .nn 9 ?_;refine .z 10 rfl (OpV.takeCall rfl rfl rfl rfl (fun H hs=> .h (hsl H hs.base))) ?_;refine .nn 11 ?_;refine .dn ?_;refine U8 ?_;exact Tc.db (ih ⟨j+1,by omega⟩ (by simp only;omega))
section
variable(k:Bk)(A:Option Addr)(lc:Nat)(B:Option Addr)(tc:Nat)(hk:BkAt H k A lc B tc)(hn:k.small)(hnm:∀i,i<k.nl→(k.name i).length≤1000000)(ha:k.alarm=0)
include hk hn hnm ha
end
end
set_option maxHeartbeats 16000000
section
variable(M:Md prog)(H:View)
end
theorem bk0_is(H:View):BkAt H bk0 none 0 none 0:=⟨⟨Nat.le_refl _,.inl rfl⟩,Nat.le_refl _,.inl rfl⟩
theorem bk0_sm:bk0.small:=⟨Nat.zero_le _,Nat.zero_le _,fun i hi=> absurd hi (Nat.not_lt_zero i)⟩
theorem safe_ex(k:Bk)(s:List UInt8):∃(f:Bool) (a:Int),k.safeV s=.tuple ⟨[.bool f,.int .i64 a]⟩:=by
 unfold Bk.safeV;split
 · exact⟨_,_,rfl⟩
 split
 · exact⟨_,_,rfl⟩
 split
 · exact⟨_,_,rfl⟩
 · exact⟨_,_,rfl⟩
theorem spare_ex(k:Bk)(z:Int)(sf:Bool):∃(x:List UInt8) (f:Bool) (a:Int),k.spareV z sf=.tuple ⟨[strV x,.bool f,.int .i64 a]⟩:=by
 unfold Bk.spareV;split
 · exact⟨_,_,_,rfl⟩
 split
 · exact⟨_,_,_,rfl⟩
 split
 · exact⟨_,_,_,rfl⟩
 · exact⟨_,_,_,rfl⟩
section
variable(H:View)(hG:Glob H)(k:Bk)(A:Option Addr)(lc:Nat)(B:Option Addr)(tc:Nat)(F:Nat→Option Addr)(fc:Nat→Nat)(hB:BookAt H k A lc B tc F fc)(hn:k.small)(hnm:∀i,i<k.nl→(k.name i).length≤1000000)
include hG hB hn hnm
theorem slips_both(line:Int):∃(n:Nat) (x:Nat→Int) (a:Int),n≤1000000∧(∀H',H.le H'→CallT (Mp prog) 58 #[k.val A lc B tc,.int .i64 line] H' (fun v H''=> H'.le H''∧∃(G:Option Addr) (c:Nat),v=.tuple ⟨[.slice G n c,.int .i64 a]⟩∧FreeAt H'' G n x))∧
   ∀H',H.le H'→CallT (Mp prog) 61 #[k.val A lc B tc,.int .i64 line] H' (fun v H''=> H'.le H''∧∃(G:Option Addr) (c:Nat),v=.tuple ⟨[.slice G n c,.int .i64 a]⟩∧FreeAt H'' G n x):=by
 have hk:=hB.bk;by_cases ha:k.alarm=0
 · obtain⟨_,hnl,_,_⟩:=Bk.valid ha;by_cases hl:0≤line∧line≤(k.nl:Int)-1
   · obtain⟨w,rfl⟩:∃w:Nat,line=(w:Nat):=⟨line.toNat,by omega⟩
     have hw:w<k.nl:=by omega
     have hle:(ascI (k.hits w)).length≤1000000:=by
       have:=refHit_le k w k.nl;rw[refHit_all] at this;omega
     refine⟨(ascI (k.hits w)).length,exAt (ascI (k.hits w)),0,hle,fun H' h=> CallT.mono (Slips_l (Mp prog) H' k A lc B tc (hk.le h) hn (glob_le hG h) ha w hw) ?_,fun H' h=> SlipsR_c (Mp prog) H' k A lc B tc (hk.le h) hn hnm ha w hw⟩;rintro v H'' ⟨h1,G,n,c,rfl,h2,h3⟩;exact⟨h1,G,c,h2,h3⟩
   · refine⟨0,fun _=> 0,6,by decide,fun H' h=> CallT.mono (Slips_absent (Mp prog) H' k A lc B tc (hk.le h) hn (glob_le hG h) ha line hl) ?_,fun H' h=> CallT.mono (SlipsR_absent (Mp prog) H' k A lc B tc (hk.le h) hn hnm ha line hl) ?_⟩;all_goals
       rintro v H'' ⟨h1,rfl⟩;exact⟨h1,none,0,rfl,.inl rfl⟩
 · refine⟨0,fun _=> 0,k.alarm,by decide,fun H' h=> CallT.mono (Slips_alarm (Mp prog) H' k A lc B tc (hk.le h) hn (glob_le hG h) ha line) ?_,fun H' h=> CallT.mono (SlipsR_alarm (Mp prog) H' k A lc B tc (hk.le h) hn hnm ha line) ?_⟩;all_goals
     rintro v H'' ⟨h1,rfl⟩;exact⟨h1,none,0,rfl,.inl rfl⟩
theorem add_both(nm num:List UInt8)(Fa:Option Addr)(nf fca:Nat)(fr:Nat→Int)(h1:nm.length≤1000000)(h2:num.length≤1000000)(h3:nf≤1000)(h4:nf≤fca)(hF:FreeAt H Fa nf fr):∃(o:Bk) (al:Int),o.small∧
   (∀H',H.le H'→CallT (Mp prog) 65 #[k.val A lc B tc,lineV nm num Fa nf fca] H' (fun v H''=> H'.le H''∧∃A' lc' B' tc',v=bookV (o.val A' lc' B' tc') al∧BkAt H'' o A' lc' B' tc'))∧
   ∀H',H.le H'→CallT (Mp prog) 66 #[k.val A lc B tc,lineV nm num Fa nf fca] H' (fun v H''=> H'.le H''∧∃A' lc' B' tc',v=bookV (o.val A' lc' B' tc') al∧BkAt H'' o A' lc' B' tc'):=by
 have hk:=hB.bk;by_cases ha:k.alarm=0
 · have c1:=fun(H':View) (h:H.le H')=> Add_c (Mp prog) H' k A lc B tc F fc (hB.le h) hn (glob_le hG h) ha nm num Fa nf fca fr h2 h3 (free_src (hF.le h));have c2:=fun(H':View) (h:H.le H')=> AddR_c (Mp prog) H' k A lc B tc F fc (hB.le h) hn hnm ha nm num Fa nf fca fr h1 h2 h3 h4 (free_src (hF.le h));obtain⟨_,hnl6,_,_⟩:=Bk.valid ha;by_cases ha2:(k.add nm num nf fr).alarm=0
   · refine⟨k.add nm num nf fr,0,⟨by show k.nl+1≤_;omega,hn.nt,fun i hi=> ?_⟩,fun H' h=> CallT.mono (c1 H' h) ?_,fun H' h=> CallT.mono (c2 H' h) ?_⟩
     · show(if i=k.nl then num else k.num i).length≤_∧(if i=k.nl then nf else k.nf i)≤_;have hi':i<k.nl+1:=hi;by_cases q:i=k.nl
       · rw[if_pos q,if_pos q];exact⟨h2,h3⟩
       · rw[if_neg q,if_neg q];exact hn.num i (by omega)
     all_goals
       rintro v H'' ⟨h5,⟨h6,_⟩|⟨_,A',lc',B',tc',F',fc',h7,h8⟩⟩
       · exact(h6 ha2).elim
       · exact⟨h5,A',lc',B',tc',h7,h8.bk⟩
   · refine⟨bk0,(k.add nm num nf fr).alarm,bk0_sm,fun H' h=> CallT.mono (c1 H' h) ?_,fun H' h=> CallT.mono (c2 H' h) ?_⟩;all_goals
       rintro v H'' ⟨h5,⟨_,h6⟩|⟨h6,_⟩⟩
       · exact⟨h5,none,0,none,0,h6,bk0_is _⟩
       · exact(ha2 h6).elim
 · refine⟨bk0,k.alarm,bk0_sm,fun H' h=> CallT.mono (Add_alarm (Mp prog) H' k A lc B tc (hk.le h) hn (glob_le hG h) ha nm num Fa nf fca) ?_,fun H' h=> CallT.mono (AddR_alarm (Mp prog) H' k A lc B tc (hk.le h) hn hnm ha nm num Fa nf fca) ?_⟩;all_goals
     rintro v H'' ⟨h5,rfl⟩;exact⟨h5,none,0,none,0,rfl,bk0_is _⟩
end
section
variable(H:View)
theorem Numbers_w {St:View→Goroutine→Prop}{cs:List Frame}(hG:Glob H)(k:Bk)(A:Option Addr)(lc:Nat)(B:Option Addr)(tc:Nat)(F:Nat→Option Addr)(fc:Nat→Nat)(hB:BookAt H k A lc B tc F fc)(line:Int)(s:List UInt8)(z:Int)(sf:Bool)(nm num:List UInt8)(Fa:Option Addr)(nf fca:Nat)(fr:Nat→Int)(hfa:nf≤fca)(hF:FreeAt H Fa nf fr)
   (hR:∀(H₀:View) (R:Rg) (L:Bl) (kk:List Item),lk R 12=some (.bool true)→H.le H₀→Tc (Mp prog) St 128 ⟨12,.normal,none⟩ H₀ cs R L [] (.code .ret::kk)):
   Tc (Mp prog) St 128 ⟨12,.normal,none⟩ H cs (argR [k.val A lc B tc,.int .i64 line,strV s,.int .i64 z,.bool sf,lineV nm num Fa nf fca]) [] [] [.code (bodyOf Tryz.f12)]:=by
 have hk:=hB.bk;have hlives:=fun(H':View) (h:H.le H')=> lives_c H' (glob_le hG h);have hgc:=fun(H':View) (h:H.le H')=> Great_c (Mp prog) H' k A lc B tc (hk.le h).rows;have hwi:=fun(H':View) t ht=> wide_c (Mp prog) H' nm num Fa nf fca t ht;cases hgr:k.great with
 | true=>
   have hwi2:=fun(H':View)=> hwi H' _ rfl;rw[hgr] at hgc;clear hwi;refine U2 ?_;refine .bo fun b6=> ?_;refine .bo fun b11=> ?_;refine U6 ?_;refine .c rfl rfl rfl rfl (fun H hs=> .h (hgc H hs.base)) ?_;refine U13 ?_;refine .c rfl rfl rfl rfl (fun H hs=> .h (hlives H hs.base)) ?_;refine U2 ?_;exact hR _ _ _ _ rfl (View.le_refl _)
 | false=>
   rw[hgr] at hgc;cases hw:(decide (100<nm.length)||decide (100<num.length)||decide (20<nf)) with
   | true=>
     have hwi2:=fun(H':View)=> hwi H' true hw;clear hwi;refine U2 ?_;refine .bo fun b6=> ?_;refine .bo fun b11=> ?_;refine U6 ?_;refine .c rfl rfl rfl rfl (fun H hs=> .h (hgc H hs.base)) ?_;refine U2 ?_;refine .c rfl rfl rfl rfl (fun H hs=> .h (hwi2 H)) ?_;refine U10 ?_;refine .c rfl rfl rfl rfl (fun H hs=> .h (hlives H hs.base)) ?_;refine U2 ?_;exact hR _ _ _ _ rfl (View.le_refl _)
   | false=>
   have hwi2:=fun(H':View)=> hwi H' false hw;clear hwi;by_cases c1:100<s.length
   · refine U2 ?_;refine .bo fun b6=> ?_;refine .bo fun b11=> ?_;refine U6 ?_;refine .c rfl rfl rfl rfl (fun H hs=> .h (hgc H hs.base)) ?_;refine U2 ?_;refine .c rfl rfl rfl rfl (fun H hs=> .h (hwi2 H)) ?_;refine U10 ?_;refine .c rfl rfl rfl rfl (fun H hs=> .h (hlives H hs.base)) ?_;refine U2 ?_;exact hR _ _ _ _ rfl (View.le_refl _)
   simp only[Bool.or_eq_false_iff,decide_eq_false_iff_not] at hw;have hsm:k.small:=Bk.ungreat_small hgr;have hnm:∀i,i<k.nl→(k.name i).length≤1000000:=fun i hi=> by have:=(Bk.ungreat hgr).2.2 i hi;omega
   obtain⟨n1,x1,a1,hn1,hs1,hs2⟩:=slips_both H hG k A lc B tc F fc hB hsm hnm line;obtain⟨f2,a2,hf2⟩:=safe_ex k s;have hq1:=fun(H':View) (h:H.le H')=> isV (Safe_c (Mp prog) H' k A lc B tc (hk.le h) hsm (glob_le hG h) s (by omega)) hf2;have hq2:=fun(H':View) (h:H.le H')=> isV (SafeR_c (Mp prog) H' k A lc B tc (hk.le h) hsm hnm s (by omega)) hf2;obtain⟨x3,f3,a3,hf3⟩:=spare_ex k z sf;have hp1:=fun(H':View) (h:H.le H')=> isV (Spare_c (Mp prog) H' k A lc B tc (hk.le h) hsm (glob_le hG h) z sf) hf3;have hp2:=fun(H':View) (h:H.le H')=> isV (SpareR_c (Mp prog) H' k A lc B tc (hk.le h) hsm hnm z sf) hf3;obtain⟨o,al,hosm,ha1,ha2⟩:=add_both H hG k A lc B tc F fc hB hsm hnm nm num Fa nf fca fr (by omega) (by omega) (by omega) hfa hF;have e1:RL.strB .neq x3 x3=some (.bool false):=by simp[RL.strB]
   clear hf2 hf3 hgr hw;cases f2
   all_goals cases f3
   all_goals
     refine U2 ?_;refine .bo fun b6=> ?_;refine .bo fun b11=> ?_;refine U6 ?_;refine .c rfl rfl rfl rfl (fun H hs=> .h (hgc H hs.base)) ?_;refine U2 ?_;refine .c rfl rfl rfl rfl (fun H hs=> .h (hwi2 H)) ?_;refine U13 ?_;refine To.callF rfl rfl rfl rfl rfl rfl (by decide) (FnT.h (hs1 H (View.le_refl _))) (fun v H₂ hv=> ?_);obtain⟨hle2,G2,g2,rfl,hF2⟩:=hv;refine U10 ?_;refine To.callF rfl rfl rfl rfl rfl rfl (by decide) (FnT.h (hs2 H₂ hle2)) (fun v H₃ hv=> ?_);obtain⟨hle3,G3,g3,rfl,hF3⟩:=hv;have hH3:=View.le_trans hle2 hle3;refine U8 ?_;have hsn:=fun(H':View) (h:H₃.le H')=> SameNums_eq (Mp prog) H' G2 G3 n1 g2 g3 x1 x1 (hF2.le (View.le_trans hle3 h)) (hF3.le h) hn1 (fun _ _=> rfl);refine U3 ?_;refine .c rfl rfl rfl rfl (fun H hs=> .h (hsn H hs.base)) ?_;refine U13 ?_;refine .c rfl rfl rfl rfl (fun H hs=> .h (hq1 H (View.le_trans hH3 hs.base))) ?_;refine U10 ?_;refine .c rfl rfl rfl rfl (fun H hs=> .h (hq2 H (View.le_trans hH3 hs.base))) ?_;refine U25 ?_;refine .c rfl rfl rfl rfl (fun H hs=> .h (hp1 H (View.le_trans hH3 hs.base))) ?_;refine U13 ?_;refine .c rfl rfl rfl rfl (fun H hs=> .h (hp2 H (View.le_trans hH3 hs.base))) ?_;refine U31 ?_;refine To.callF rfl rfl rfl rfl rfl rfl (by decide) (FnT.h (ha1 H₃ hH3)) (fun v H₄ hv=> ?_);obtain⟨hle4,A4,lc4,B4,tc4,rfl,hO4⟩:=hv;have hH4:=View.le_trans hH3 hle4;refine U3 ?_;refine .al fun b21=> ?_;refine U7 ?_;refine To.callF rfl rfl rfl rfl rfl rfl (by decide) (FnT.h (ha2 H₄ hH4)) (fun v H₅ hv=> ?_);obtain⟨hle5,A5,lc5,B5,tc5,rfl,hO5⟩:=hv;have hH5:=View.le_trans hH4 hle5;have hsame:=fun(H':View) (h:H₅.le H')=> Same_c (Mp prog) H' o A4 A5 lc4 lc5 B4 B5 tc4 tc5 (hO4.le (View.le_trans hle5 h)) (hO5.le h) hosm;refine U3 ?_;refine .al fun b22=> ?_;refine U7 ?_;refine .c rfl rfl rfl rfl (fun H hs=> .h (hsame H hs.base)) ?_;refine U6 ?_;refine .c rfl rfl rfl rfl (fun H hs=> .h (hlives H (View.le_trans hH5 hs.base))) ?_;refine U3 ?_;exact hR _ _ _ _ rfl hH5
end
end Go.Proofs.YtdnfdeplcjaonaaGreatDoor
