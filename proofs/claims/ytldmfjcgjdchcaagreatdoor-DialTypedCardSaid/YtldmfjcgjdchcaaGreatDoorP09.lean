/-
  The law DialTyped.
-/
import Derived.Test.YtldmfjcgjdchcaaGreatDoorP08
namespace Go.Proofs.YtldmfjcgjdchcaaGreatDoor
open Go.RL Go.Proofs.Tryz
set_option maxRecDepth 10000
set_option maxHeartbeats 8000000
theorem lowD_dig(n:Nat):∀i,(lowD n i).all dig=true
 | 0=> rfl
 | i+1=> by
   show(dig (UInt8.ofNat (48+n/10 ^ i%10))&&(lowD n i).all dig)=true;rw[lowD_dig n i,Bool.and_true];generalize n/10 ^ i=z;have h:(UInt8.ofNat (48+z%10)).toNat=48+z%10:=by rw[UInt8.toNat_ofNat'];omega
   exact decide_eq_true (by omega)
abbrev Ex:=Nat×Nat×List Value
def exV(n:Nat)(x:Ex):Value:=.slice (some ⟨x.1,0,none⟩) n x.2.1
def exB(e:TypeId)(l:List Value)(x:Ex):Bl:= [(x.1,true,.cells ⟨l++x.2.2⟩ e (0,0))]
theorem gl_ex {e:TypeId}{sz:Nat}(g:Gl e sz)(h:0<g.n):∃x:Ex,g.val=exV g.n x∧g.bl=exB e g.l x:=by
 obtain⟨gb,gn,gc,gl,gj,h1,h2,h3,h4⟩:=g;cases gb with
 | none=> have:=h4 rfl;simp only at h;omega
 | some b=> exact⟨(b,gc,gj),rfl,rfl⟩
theorem codes_at {s:List UInt8}{i:Nat}{x:UInt8}(h:s[i]? =some x)(jj:List Value):ldL false 1 (codesL s++jj) (0+((i:Nat):Int).toNat*1)=some (.int .i64 (pn x:Nat)):=by
 show(codesL s++jj)[0+((i:Nat):Int).toNat*1]? =_;rw[Int.toNat_natCast,Nat.zero_add,Nat.mul_one,List.getElem?_append_left (by simp only[codesL,List.length_map];exact(List.getElem?_eq_some_iff.1 h).1)];simp only[codesL,List.getElem?_map,h];rfl
theorem codes_src {s:List UInt8}{H:View}{b n:Nat}{f:Bool}{jj:List Value}{e:TypeId}{fz:Nat×Nat}(h:H b=some (f,.cells ⟨codesL s++jj⟩ e fz)):SrcAt H 1 (.slice (some ⟨b,0,none⟩) s.length n) s.length (codesL s):=by
 have h1:(codesL s).length=s.length:=by simp[codesL]
 refine⟨⟨_,_,rfl⟩,by omega,.inr ⟨b,0,n,f,_,e,fz,rfl,h,by rw[List.length_append];omega,?_⟩⟩;simp
theorem codes_free {s:List UInt8}{H:View}{b:Nat}{f:Bool}{jj:List Value}{e:TypeId}{fz:Nat×Nat}(h:H b=some (f,.cells ⟨codesL s++jj⟩ e fz)):FreeAt H (some ⟨b,0,none⟩) s.length (fun i=> (pnAt s i:Nat)):=by
 refine .inr ⟨b,0,f,_,e,fz,rfl,h,fun j hj=> ?_⟩;have:=codes_at (List.getElem?_eq_getElem hj) jj;rw[this];show _=some (Value.int .i64 ((pn (s[j]?.getD 48):Nat):Int));rw[List.getElem?_eq_getElem hj];rfl
theorem trainsL_len(s:List UInt8)(p:Int):(trainsL s p).length=s.length*4:=by
 unfold trainsL;induction s with
 | nil=> rfl
 | cons x s ih=> rw[List.flatMap_cons,List.length_append,ih,List.length_cons];simp only[List.length_cons,List.length_nil];omega
theorem trains_at:∀ {s:List UInt8} {i:Nat} {x:UInt8},s[i]? =some x→∀(p:Int) (jj:List Value),((trainsL s p++jj).drop (i*4)).take 4= [.int .i64 (pn x:Nat),.int .i64 (pn x:Nat),.int .i64 p,.int .i64 p]
 | [],_,_,h,_,_=> by simp at h
 | y::s,0,x,h,p,jj=> by
   simp only[List.getElem?_cons_zero,Option.some.injEq] at h;subst h;rfl
 | y ::s,i+1,x,h,p,jj=> by
   have e:(trainsL (y::s) p++jj).drop ((i+1)*4)=(trainsL s p++jj).drop (i*4):=by
     rw[show(i+1)*4=4+i*4 by omega,←List.drop_drop];rfl
   rw[e];exact trains_at (s:=s) (by simpa using h) p jj
theorem trains_ld {s:List UInt8}{i:Nat}{x:UInt8}(h:s[i]? =some x)(p:Int)(jj:List Value):ldL true 4 (trainsL s p++jj) (0+((i:Nat):Int).toNat*4)=some (trainV (pn x:Nat) (pn x:Nat) p p):=by
 have hi:=(List.getElem?_eq_some_iff.1 h).1;unfold ldL;rw[show Nat.ble (0+((i:Nat):Int).toNat*4+4) (trainsL s p++jj).length=true from Nat.ble_eq_true_of_le (by rw[List.length_append,trainsL_len,Int.toNat_natCast];omega)];simp only[Int.toNat_natCast,Nat.zero_add,trains_at h p jj];rfl
theorem eg39:prog.eqGuardType prog.depth 39=false:=by kernel_rfl
theorem band_flat(a b:Int):flat en 2 37 [.int .i64 a,.int .i64 b]:=by
 refine⟨rfl,?_⟩;intro f hf;simp only[List.mem_cons,List.not_mem_nil,or_false] at hf;rcases hf with rfl|rfl
 · exact⟨⟨_,rfl⟩,_,rfl,rfl,Nat.le_of_ble_eq_true rfl⟩
 · exact⟨⟨_,rfl⟩,_,rfl,rfl,Nat.le_of_ble_eq_true rfl⟩
theorem train_flat(a b c d:Int):flat en 3 39 [.int .i64 a,.int .i64 b,.int .i64 c,.int .i64 d]:=by
 refine⟨rfl,?_⟩;intro f hf;simp only[List.mem_cons,List.not_mem_nil,or_false] at hf;rcases hf with rfl|rfl
 · exact⟨band_flat a b,_,rfl,rfl,Nat.le_of_ble_eq_true rfl⟩
 · exact⟨band_flat c d,_,rfl,rfl,Nat.le_of_ble_eq_true rfl⟩
section
variable(M:Md prog)(H:View)
theorem toB_c(a b:Int):CallT M 46 #[.int .i64 a,.int .i64 b] H (fun v H'=> H.le H'∧v=bandV a b):=by
 refine .en func46 ntmps46 fun St c cs hK=> ?_;refine U2 ?_;refine .al fun _=> ?_;refine U8 ?_;refine .rt hK func46 results46 [bandV a b] ?_;exact okB
theorem trainOf_c(a b:Int):CallT M 14 #[.int .i64 a,.int .i64 b] H (fun v H'=> H.le H'∧v=trainV a a b b):=by
 refine .en func14 ntmps14 fun St c cs hK=> ?_;refine U2 ?_;refine .al fun _=> ?_;refine U5 ?_;refine .c rfl rfl rfl rfl (fun H hs=> .h (toB_c M H a a)) ?_;refine U2 ?_;refine .c rfl rfl rfl rfl (fun H hs=> .h (toB_c M H b b)) ?_;refine U3 ?_;refine .rt hK func14 results14 [trainV a a b b] ?_;exact okB
theorem Encode_x(hG:Sig H)(s:List UInt8)(hs1:s.all dig=true)(hs2:s.length≤12)(hs3:s≠ []):
   CallT M 10 #[strV s,.int .i64 1] H (fun v H'=> H.le H'∧∃x:Ex,v=.tuple ⟨[exV s.length x,.int .i64 0]⟩∧True∧∀y∈exB 3 (codesL s) x,H' y.1=some y.2∧H y.1=none):=
 (Encode_c M H hG s hs1 hs2).mono fun v H' ⟨h1,g,h2,⟨h3,h4⟩,h5⟩=> by
   obtain⟨x,h6,h7⟩:=gl_ex g (by rw[h3];exact List.length_pos_iff.2 hs3);exact⟨h1,x,by rw[h2,h6,h3],trivial,by rw[h7,h4] at h5;exact h5⟩
theorem Trains_x(s:List UInt8)(hs1:isNum s=true)(hs3:s≠ [])(p:Int)(hp:0≤p∧p≤99):
   CallT M 12 #[strV s,.int .i64 p] H (fun v H'=> H.le H'∧∃x:Ex,v=.tuple ⟨[exV s.length x,.int .i64 0]⟩∧True∧∀y∈exB 39 (trainsL s p) x,H' y.1=some y.2∧H y.1=none):=
 (Trains_yes M H s hs1 p hp).mono fun v H' ⟨h1,g,h2,⟨h3,h4⟩,h5⟩=> by
   obtain⟨x,h6,h7⟩:=gl_ex g (by rw[h3];exact List.length_pos_iff.2 hs3);exact⟨h1,x,by rw[h2,h6,h3],trivial,by rw[h7,h4] at h5;exact h5⟩
end
section
variable(H:View)
theorem Typed_w {St:View→Goroutine→Prop}{cs:List Frame}(hG:Glob H)(hS:Sig H)(n:Int)(hn:0≤n∧n≤65535)(d:Int)(hd:0≤d∧d≤255)
   (hR:∀(H₀:View) (R:Rg) (L:Bl) (kk:List Item),lk R 4=some (.bool true)→H.le H₀→Tc (Mp prog) St 104 ⟨3,.normal,none⟩ H₀ cs R L [] (.code .ret::kk)):
   Tc (Mp prog) St 104 ⟨3,.normal,none⟩ H cs (argR [.int .u16 n,.int .u8 d]) [] [] [.code (bodyOf Tryz.f3)]:=by
 obtain⟨n,rfl⟩:∃m:Nat,n=(m:Nat):=⟨n.toNat,by omega⟩
 obtain⟨z,hz,hzp⟩:∃z:Nat,(1≤z∧z≤3)∧1+d%3=(z:Nat):=⟨(1+d%3).toNat,by omega,by omega⟩
 have w1:IntKind.i64.wrap ((n:Nat):Int)=((n:Nat):Int):=wrap64 (by omega) (by omega);have w2:IntKind.i64.wrap d=d:=wrap64 (by omega) (by omega);have e1:intBin .rem .i64 d 3=some (.int .i64 (d%3)):=rem_in (by omega) (by omega);have e2:intBin .add .i64 1 (d%3)=some (.int .i64 (z:Nat)):=by rw[add_in (by omega) (by omega),hzp]
 have hs1:=lowD_dig n z;have hs2:=lowD_len n z;have hdg:=fun(H':View)=> digitsOf_c (Mp prog) H' n z (by omega) (by omega);generalize lowD n z=s at hs1 hs2 hdg;have hs3:s≠ []:=fun h=> by rw[h] at hs2;simp only[List.length_nil] at hs2;omega
 have hnum:isNum s=true:=by
   unfold isNum;rw[hs1,Bool.and_true];exact decide_eq_true (by omega)
 have hss:RL.strB .neq s s=some (.bool false):=by
   show some (Value.bool (!(s==s)))=_;rw[BEq.rfl];rfl
 have hpul:pulsesV s=.tuple ⟨[.int .i64 (takenN s:Nat),.int .i64 0]⟩:=if_neg (by rw[hnum];decide);refine U12 ?_;refine .c rfl rfl rfl rfl (fun H hs=> .h (hdg H)) ?_;refine U5 ?_;refine .e (Or.callNew (fun x=> .tuple ⟨[exV s.length x,.int .i64 0]⟩) (fun x=> exB 3 (codesL s) x) (fun _=> True) rfl rfl rfl rfl rfl (by decide) (fun _=> by simp[exB]) (fun H hs=> .h (Encode_x (Mp prog) H (hS.le hs.base) s hs1 (by omega) hs3)) (fun x _=> ?_));refine U6 ?_;obtain⟨cb,cc,cj⟩:=x;refine U3 ?_;refine .c rfl rfl rfl rfl (fun H hs=> .h (Decode_c (Mp prog) H (hS.le hs.base) s hs1 (by omega) hs3 (some ⟨cb,0,none⟩) cc (codes_src (hs.get (i:=0) rfl)) (codes_free (hs.get (i:=0) rfl)))) ?_;refine U9 ?_;refine .e (Or.callNew (fun x=> .tuple ⟨[exV s.length x,.int .i64 0]⟩) (fun x=> exB 39 (trainsL s 9) x) (fun _=> True) rfl rfl rfl rfl rfl (by decide) (fun _=> by simp[exB]) (fun H hs=> .h (Trains_x (Mp prog) H s hnum hs3 9 (by omega))) (fun x _=> ?_));refine U6 ?_;obtain⟨tb,tc,tj⟩:=x;refine U3 ?_;refine .c rfl rfl rfl rfl (fun H hs=> .h (isV (Pulses_c (Mp prog) H s (by omega)) hpul)) ?_;refine U55 ?_;refine Tc.db (Tc.loopInv (σ:= { i:Nat//i≤s.length }) (fun i=> ([(6,exV s.length (cb,cc,cj)),(10,exV s.length (tb,tc,tj)),(12,.int .i64 (takenN s:Nat)),(14,.int .i64 (takenN (s.take i.1):Nat)),(15,.int .i64 (i.1:Nat))],[(cb,true,.cells ⟨codesL s++cj⟩ 3 (0,0)),(tb,true,.cells ⟨trainsL s 9++tj⟩ 39 (0,0))])) (fun i=> s.length-i.1) ?_ ⟨0,Nat.zero_le _⟩);rintro⟨i,hi⟩ ih;show Tc (Mp prog) St _ _ _ _ [(6,exV s.length (cb,cc,cj)),(10,exV s.length (tb,tc,tj)),(12,.int .i64 (takenN s:Nat)),(14,.int .i64 (takenN (s.take i):Nat)),(15,.int .i64 (i:Nat))] [(cb,true,.cells ⟨codesL s++cj⟩ 3 (0,0)),(tb,true,.cells ⟨trainsL s 9++tj⟩ 39 (0,0))] _ _;by_cases c1:i=s.length
 · clear ih;subst c1;rw[List.take_length];refine U16 ?_;refine .c rfl rfl rfl rfl (fun H hs=> .h (lives_c H (glob_le hG hs.base))) ?_;refine U3 ?_;exact hR _ _ _ _ rfl (View.le_refl _)
 · have c2:i<s.length:=by omega
   have hih:=ih ⟨i+1,by omega⟩ (by simp only;omega);clear ih;obtain⟨x,hx,hdx,_⟩:=dec_dig s i c2 hs1;have f1:=codes_at hx cj;have f2:=trains_ld hx 9 tj;have hpn:=pn_in hdx;have hps0:takenN (s.take i)≤10*i:=by
     have h1:(s.take i).all dig=true:=List.all_eq_true.2 fun y hy=> List.all_eq_true.1 hs1 y (List.mem_of_mem_take hy);have h2:=takenN_le (s.take i) h1;rw[List.length_take] at h2;omega
   have ha:intBin .add .i64 (takenN (s.take i):Nat) (pn x:Nat)=some (.int .i64 ((takenN (s.take (i+1)):Nat):Int)):=by
     rw[add_in (by omega) (by omega),takenN_at hx];rfl
   refine U14 ?_;refine Tc.dr [] [] mixed rfl ?_;refine .nn 0 ?_;refine .nn 1 ?_;refine .nn 2 ?_;refine .nn 3 ?_;refine .nn 4 ?_;refine .nn 5 ?_;refine .nn 6 ?_;refine .nn 7 ?_;refine .z 8 rfl (OpV.takeCall rfl rfl rfl rfl (fun H hs=> .h (trainOf_c (Mp prog) H (pn x:Nat) 9))) ?_;refine .q 9 rfl (OpV.neA (E:=en) true 3 rfl rfl rfl rfl rfl eg39 (by decide) (train_flat _ _ _ _) (train_flat _ _ _ _) (by simp)) ?_;refine .dn ?_;refine U17 ?_;exact Tc.db (hih)
end
end Go.Proofs.YtldmfjcgjdchcaaGreatDoor
