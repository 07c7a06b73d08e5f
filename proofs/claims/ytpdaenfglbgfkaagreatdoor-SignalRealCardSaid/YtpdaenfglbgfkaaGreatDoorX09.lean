/-
  Texts of the proofs over baudot/signal: JC JD JE JF JG JH JI K1 K2.
-/
import Derived.Test.YtpdaenfglbgfkaaGreatDoorX08
section
namespace Go.Proofs.YtpdaenfglbgfkaaGreatDoor
open Go.RL
set_option maxRecDepth 10000
set_option maxHeartbeats 8000000
def bl(x:Nat):Nat:=if x=0 then 0 else Nat.log2 x+1
theorem bl_u8:∀x:Nat,x<64→(UInt8.ofNat (bl x)).toNat=bl x∧bl x≤6∧x<2 ^ bl x∧2 ^ bl x≤2*x+1:=by decide +kernel
theorem u8_wrap:∀x:Nat,x<64→IntKind.u8.wrap (x:Int)=(x:Int):=by decide +kernel
section
variable(M:Md Tryz.prog)(H:View)
theorem Len64_c(x:Nat)(hx:x<64):CallT M 186 #[.int .u64 (x:Nat)] H (fun v H'=> H.le H'∧v=.int .i64 (bl x:Nat)):=by
 obtain⟨b1,b2,_,_⟩:=bl_u8 x hx
 have hw:=u8_wrap x hx
 have hw2:IntKind.i64.wrap (((UInt8.ofNat (bl x)).toNat:Nat):Int)=((bl x:Nat):Int):=by rw[b1];exact wrap64 (by omega) (by omega)
 have hadd:intBin .add .i64 0 ((bl x:Nat):Int)=some (.int .i64 ((bl x:Nat):Int)):=by rw[add_in (by omega) (by omega),Int.zero_add]
 refine CallT.enter (vs:= [.int .u64 (x:Nat)]) Tryz.func186 rfl Tryz.ntmps186 (Nat.le_of_ble_eq_true rfl) (SymSt.nil _) fun St c cs hK=> ?_
 refine .sr ?_
 refine .g ?_
 refine .done (.seq (.sr ?_))
 refine .m ?_
 refine .i ?_ (z:=geq_f (by omega))
 refine .done (.ff rfl (.skip (.seq (.sr ?_))))
 refine .m ?_
 refine .i ?_ (z:=geq_f (by omega))
 refine .done (.ff rfl (.skip (.seq (.sr ?_))))
 refine .m ?_
 refine .i ?_ (z:=geq_f (by omega))
 refine .done (.ff rfl (.skip (.sr ?_)))
 refine .m ?_
 refine .m ?_
 refine .x .cv ?_
 refine .x (OpV.indexStr (c:=UInt8.ofNat (bl x)) rfl rfl rfl un_9 (by omega) (by
   rw[Int.toNat_natCast]
   exact(fun(s:ByteArray) (h:∀y:Nat,y<64→s[y]? =some (UInt8.ofNat (bl y)))=> h x hx) _ (by decide +kernel))) ?_
 refine .x (OpV.convE (E:=en) rfl rfl rfl rfl rfl rfl hw2) ?_
 refine .i ?_ (z:=hadd)
 refine .g ?_
 refine .done ?_
 refine .rt hK Tryz.func186 Tryz.results186 [_] ?_
 exact fun H' hs=> ⟨hs.base,rfl⟩
theorem Len_c(x:Nat)(hx:x<64):CallT M 149 #[.int .u64 (x:Nat)] H (fun v H'=> H.le H'∧v=.int .i64 (bl x:Nat)):=by
 refine CallT.enter (vs:= [.int .u64 (x:Nat)]) Tryz.func149 rfl Tryz.ntmps149 (Nat.le_of_ble_eq_true rfl) (SymSt.nil _) fun St c cs hK=> ?_
 refine .sr ?_
 refine .g ?_
 refine .done (.seq (.ff rfl (.skip (.sr ?_))))
 refine .m ?_
 refine .c rfl rfl rfl rfl (fun H hs=> .f ca186 rfl (Len64_c M H x hx)) ?_
 refine .g ?_
 refine .done ?_
 refine .rt hK Tryz.func149 Tryz.results149 [_] ?_
 exact fun H' hs=> ⟨hs.base,rfl⟩
end
end Go.Proofs.YtpdaenfglbgfkaaGreatDoor
end
section
namespace Go.Proofs.YtpdaenfglbgfkaaGreatDoor
open Go.RL
set_option maxRecDepth 10000
set_option maxHeartbeats 8000000
def NextQ(H:View)(cb:Nat)(v:Value)(H':View):Prop:=
 (∀b x,b≠cb→H b=some x→H' b=some x)∧∃z:Int,v=.int .u64 z∧H' cb=some (true,.cells ⟨[.int .u64 z]⟩ 252 (0,0))
section
variable(M:Md Tryz.prog)(H:View)
theorem Next_c(cb:Nat)(z:Int)(hC:H cb=some (true,.cells ⟨[.int .u64 z]⟩ 252 (0,0))):CallT M 213 #[.pointer (some ⟨cb,0,none⟩)] H (NextQ H cb):=by
 obtain⟨z1,h1⟩:∃z1,shiftV .shl .u64 z 13=some (.int .u64 z1):=⟨_,rfl⟩
 obtain⟨z2,h2⟩:∃z2,intBin .xor .u64 z z1=some (.int .u64 z2):=⟨_,rfl⟩
 obtain⟨z3,h3⟩:∃z3,shiftV .shr .u64 z2 7=some (.int .u64 z3):=⟨_,rfl⟩
 obtain⟨z4,h4⟩:∃z4,intBin .xor .u64 z2 z3=some (.int .u64 z4):=⟨_,rfl⟩
 obtain⟨z5,h5⟩:∃z5,shiftV .shl .u64 z4 17=some (.int .u64 z5):=⟨_,rfl⟩
 obtain⟨z6,h6⟩:∃z6,intBin .xor .u64 z4 z5=some (.int .u64 z6):=⟨_,rfl⟩
 refine CallT.enter (vs:= [.pointer (some ⟨cb,0,none⟩)]) Tryz.func213 rfl Tryz.ntmps213 (Nat.le_of_ble_eq_true rfl) (SymSt.pull hC) fun St c cs hK=> ?_
 refine .sr ?_
 refine .g ?_
 refine .done (.seq ?_)
 refine Tc.dr [9] [0] mixed rfl ?_
 refine .q 0 rfl .mv ?_
 refine .q 1 rfl .nk ?_
 refine .q 2 rfl (.ld 0) ?_
 refine .q 3 rfl .mv ?_
 refine .q 4 rfl .nk ?_
 refine .q 5 rfl (.ld 0) ?_
 refine .q 6 rfl .sf ?_
 refine .q 7 rfl (.it (zz:=(by assumption))) ?_
 refine .q 8 rfl .nk ?_
 refine Ta.each [9] (by kernel_rfl) rfl ⟨TaOp.mk rfl rfl rfl (.st 0 (zz:=⟨S2.mk (by exact List.nil_sublist _) (.inl (by kernel_rfl)),?_⟩)),trivial⟩
 refine Ta.done (by kernel_rfl) ?_
 refine .seq ?_
 refine Tc.dr [9] [0] mixed rfl ?_
 refine .q 0 rfl .mv ?_
 refine .q 1 rfl .nk ?_
 refine .q 2 rfl (.ld 0) ?_
 refine .q 3 rfl .mv ?_
 refine .q 4 rfl .nk ?_
 refine .q 5 rfl (.ld 0) ?_
 refine .q 6 rfl .sf ?_
 refine .q 7 rfl (.it (zz:=(by assumption))) ?_
 refine .q 8 rfl .nk ?_
 refine Ta.each [9] (by kernel_rfl) rfl ⟨TaOp.mk rfl rfl rfl (.st 0 (zz:=⟨S2.mk (by exact List.nil_sublist _) (.inl (by kernel_rfl)),?_⟩)),trivial⟩
 refine Ta.done (by kernel_rfl) ?_
 refine .seq ?_
 refine Tc.dr [9] [0] mixed rfl ?_
 refine .q 0 rfl .mv ?_
 refine .q 1 rfl .nk ?_
 refine .q 2 rfl (.ld 0) ?_
 refine .q 3 rfl .mv ?_
 refine .q 4 rfl .nk ?_
 refine .q 5 rfl (.ld 0) ?_
 refine .q 6 rfl .sf ?_
 refine .q 7 rfl (.it (zz:=(by assumption))) ?_
 refine .q 8 rfl .nk ?_
 refine Ta.each [9] (by kernel_rfl) rfl ⟨TaOp.mk rfl rfl rfl (.st 0 (zz:=⟨S2.mk (by exact List.nil_sublist _) (.inl (by kernel_rfl)),?_⟩)),trivial⟩
 refine Ta.done (by kernel_rfl) ?_
 refine .sr ?_
 refine .m ?_
 refine .x .nk ?_
 refine .x (.ld 0) ?_
 refine .g ?_
 refine .done ?_
 refine .rt hK Tryz.func213 Tryz.results213 [_] ?_
 exact fun H' hs=> ⟨fun b x hb hx=> hs.base b x (by rw[without_other hb];exact hx),z6,rfl,hs.get (i:=0) rfl⟩
theorem nextPow_c(x:Nat)(hx:x<64):CallT M 212 #[.int .i64 (x:Nat)] H (fun v H'=> H.le H'∧v=.int .u64 ((2 ^ bl x:Nat):Int)):=by
 have hw:IntKind.u64.wrap ((x:Nat):Int)=((x:Nat):Int):=(by decide +kernel:∀y:Nat,y<64→IntKind.u64.wrap (y:Int)=(y:Int)) x hx
 have hs:shiftV .shl .u64 1 ((bl x:Nat):Int)=some (.int .u64 ((2 ^ bl x:Nat):Int)):=by
   have h:=(by decide +kernel:∀y:Nat,y<64→IntKind.u64.wrap (1*2 ^ (min ((bl y:Nat):Int).toNat IntKind.u64.bits))=((2 ^ bl y:Nat):Int)) x hx
   show some (Value.int .u64 (IntKind.u64.wrap (1*2 ^ (min ((bl x:Nat):Int).toNat IntKind.u64.bits))))=_
   rw[h]
 refine CallT.enter (vs:= [.int .i64 (x:Nat)]) Tryz.func212 rfl Tryz.ntmps212 (Nat.le_of_ble_eq_true rfl) (SymSt.nil _) fun St c cs hK=> ?_
 refine .sr ?_
 refine .g ?_
 refine .done (.sr ?_)
 refine .m ?_
 refine .x .cv ?_
 refine .c rfl rfl rfl rfl (fun H hs=> .f ca149 rfl (Len_c M H x hx)) ?_
 refine .x .sf ?_
 refine .g ?_
 refine .done ?_
 refine .rt hK Tryz.func212 Tryz.results212 [_] ?_
 exact fun H' hs=> ⟨hs.base,rfl⟩
end
end Go.Proofs.YtpdaenfglbgfkaaGreatDoor
end
section
namespace Go.Proofs.YtpdaenfglbgfkaaGreatDoor
open Go.RL
set_option maxRecDepth 10000
set_option maxHeartbeats 8000000
theorem u64_small:∀y:Nat,y<128→IntKind.u64.wrap (y:Int)=(y:Int):=by decide +kernel
theorem bl_two:∀x:Nat,x<64→0<x→2 ^ bl x≤2*x:=by decide +kernel
theorem and_u64(z:Int)(m:Nat)(h:m<64):∃w:Nat,intBin .and .u64 z (m:Nat)=some (.int .u64 (w:Nat))∧w≤m:=by
 have h2:((BitVec.ofInt 64 z) &&& (BitVec.ofInt 64 (m:Int))).toNat≤m:=by
   rw[BitVec.toNat_and]
   refine Nat.le_trans Nat.and_le_right ?_
   rw[BitVec.toNat_ofInt]
   omega
 refine⟨((BitVec.ofInt 64 z) &&& (BitVec.ofInt 64 (m:Int))).toNat,?_,h2⟩
 show some (Value.int .u64 (IntKind.u64.wrap (((BitVec.ofInt 64 z) &&& (BitVec.ofInt 64 (m:Int))).toNat:Int)))=_
 rw[u64_small _ (by omega)]
theorem Or.rnd {M:Md Tryz.prog}{n:Nat}{H₀:View}{R:Rg}{L:Bl}{o:Oper}{K:Rg→Bl→Prop}{cl:Go.Call}{x:Operand}{fv:Value}{az:List Value}{d:Nat}(i:Nat){cb:Nat}{z:Int}
   (hop:o.op=.call cl) (hcl:cl.callee=.value x) (hx:evR R x=some fv) (has:evRs R cl.args.toList=some az) (hd:o.dst=some d) (hn:d<n) (hi:L[i]? =some (cb,true,.cells ⟨[.int .u64 z]⟩ 252 (0,0)))
   (hc:∀H,SymSt H₀ L H→FnT M fv az H (NextQ H cb)) (hk:∀z,K ((d,.int .u64 z)::R) (L.set i (cb,true,.cells ⟨[.int .u64 z]⟩ 252 (0,0)))):Or M n H₀ R L o K:=
 .callV hop hcl hx has (Q:=fun H v H'=> NextQ H cb v H') hc fun H v H' hs ⟨h1,z,h2,h3⟩=>
   ⟨_,_,hs.turn hi h1 h3,by rw[hd];exact⟨hn,by rw[h2]⟩,hk z⟩
section
variable(M:Md Tryz.prog)(H:View)
theorem break_c(sb:Nat)(l:List Int)(jj:List Value)(n cap a b:Nat)(hn:n=l.length)(hb:b≤n)(h1000:n≤1000)(h8:a+8≤b)(h50:b<a+50)(hS:H sb=some (true,.cells ⟨intsL l++jj⟩ 3 (0,0))):
   CallT M 178 #[.slice (some ⟨sb,0,none⟩) n cap,.int .i64 (a:Nat),.int .i64 (b:Nat)] H (SortQ H sb jj (fun v m=> v=.tuple ⟨[]⟩∧Turned a b l m)):=by
 obtain⟨m,hm⟩:∃m,m=b-a:=⟨_,rfl⟩
 obtain⟨w,hw⟩:∃w,w=m/4:=⟨_,rfl⟩
 obtain⟨_,_,b3,b4⟩:=bl_u8 m (by omega)
 obtain⟨P,hP⟩:∃P,2 ^ bl m=P:=⟨_,rfl⟩
 rw[hP] at b3 b4
 have b5:=bl_two m (by omega) (by omega)
 rw[hP] at b5
 have hbl:P≤64:=by
   have h:=(bl_u8 m (by omega)).2.1
   have h2:2 ^ bl m≤2 ^ 6:=Nat.pow_le_pow_right (by decide) h
   omega
 have e0:((b:Nat):Int)-((a:Nat):Int)=((m:Nat):Int):=by omega
 have hwr:IntKind.u64.wrap ((m:Nat):Int)=((m:Nat):Int):=u64_small m (by omega)
 have hq:intBin .quo .i64 ((m:Nat):Int) 4=some (.int .i64 ((w:Nat):Int)):=by
   rw[quo_in (by omega) (by omega) (by omega)]
   congr 2
   omega
 have e1:((a:Nat):Int)+((w:Nat):Int)*2-1=((a+w*2-1:Nat):Int):=by omega
 have hsub:intBin .sub .u64 ((P:Nat):Int) 1=some (.int .u64 ((P-1:Nat):Int)):=by
   have h:=u64_small (P-1) (by omega)
   have h2:((P:Nat):Int)-1=((P-1:Nat):Int):=by omega
   show some (Value.int .u64 (IntKind.u64.wrap (((P:Nat):Int)-1)))=_
   rw[h2,h]
 refine CallT.enter (vs:= [.slice (some ⟨sb,0,none⟩) n cap,.int .i64 (a:Nat),.int .i64 (b:Nat)]) Tryz.func178 rfl Tryz.ntmps178 (Nat.le_of_ble_eq_true rfl) (SymSt.pull hS) fun St c cs hK=> ?_
 refine .sr ?_
 refine .m ?_
 refine .m ?_
 refine .i ?_ (z:=sub_in (by omega) (by omega))
 refine .g ?_
 refine .done ?_
 rw[e0]
 refine .sr ?_
 refine .m ?_
 refine .i ?_ (z:=geq_t (by omega))
 refine .done (.tt rfl (.sr ?_))
 refine .m ?_
 refine .x .cv ?_
 refine .e (.al (zz:=fun b7=> ?_))
 refine .e (.st 0 (zz:=?_))
 refine .done (.sr ?_)
 refine .m ?_
 refine .c rfl rfl rfl rfl (fun H hs=> .f ca212 rfl (CallT.is (.int .u64 (P:Nat)) (by rewrite [hP];rfl) (nextPow_c M H m (by omega)))) ?_
 refine .g ?_
 refine .done (.sr ?_)
 refine .m ?_
 refine .m ?_
 refine .i ?_ (z:=by assumption)
 refine .i ?_ (z:=mul_in (by omega) (by omega))
 refine .i ?_ (z:=add_in (by omega) (by omega))
 refine .i ?_ (z:=sub_in (by omega) (by omega))
 refine .g ?_
 refine .done ?_
 rw[e1]
 refine .block ?_
 refine Tc.db (Tc.loopInv (σ:= { s:Nat×Int×List Int//a+w*2-1≤s.1∧s.1≤a+w*2+2∧Turned a b l s.2.2 }) (fun s=> ([(0,.slice (some ⟨sb,0,none⟩) n cap),(1,.int .i64 (a:Nat)),(6,.int .i64 (m:Nat)),(7,.pointer (some ⟨b7,0,none⟩)),(8,.int .u64 (P:Nat)),(9,.int .i64 (s.1.1:Nat))],[(b7,true,.cells ⟨[.int .u64 s.1.2.1]⟩ 252 (0,0)),(sb,true,.cells ⟨intsL s.1.2.2++jj⟩ 3 (0,0))])) (fun s=> a+w*2+2-s.1.1) ?_
   ⟨(a+w*2-1,m,l),Nat.le_refl _,by simp only;omega,Turned.refl ..⟩)
 rintro⟨⟨i,z0,u⟩,g1,g2,g3⟩ ih
 simp only at g1 g2 g3
 have hul:=g3.len
 show Tc M St _ _ _ _ [(0,.slice (some ⟨sb,0,none⟩) n cap),(1,.int .i64 (a:Nat)),(6,.int .i64 (m:Nat)),(7,.pointer (some ⟨b7,0,none⟩)),(8,.int .u64 (P:Nat)),(9,.int .i64 (i:Nat))] [(b7,true,.cells ⟨[.int .u64 z0]⟩ 252 (0,0)),(sb,true,.cells ⟨intsL u++jj⟩ 3 (0,0))] _ _
 by_cases c1:i≤a+w*2+1
 · refine .seq (.sr ?_)
   refine .m ?_
   refine .m ?_
   refine .m ?_
   refine .i ?_ (z:=by assumption)
   refine .i ?_ (z:=mul_in (by omega) (by omega))
   refine .i ?_ (z:=add_in (by omega) (by omega))
   refine .i ?_ (z:=add_in (by omega) (by omega))
   refine .i ?_ (z:=leq_t (by omega))
   refine .done (.tt rfl (.skip (.seq (.block (.sr ?_)))))
   refine .e (Or.rnd (z:=z0) 0 rfl rfl rfl rfl rfl (by decide) rfl (fun H hs=> .f ca213 rfl (Next_c M H b7 z0 (hs.get (i:=0) rfl))) (fun z=> ?_))
   obtain⟨x,hx,hxle⟩:=and_u64 z (P-1) (by omega)
   have hcv:IntKind.i64.wrap ((x:Nat):Int)=((x:Nat):Int):=wrap64 (by omega) (by omega)
   refine .m ?_
   refine .i ?_ (z:=hsub)
   refine .i ?_ (z:=hx)
   refine .x (OpV.convE (E:=en) rfl rfl rfl rfl rfl rfl hcv) ?_
   refine .g ?_
   refine .done (.seq (.seq ?_))
   by_cases c2:x<m
   · refine .r ?_
     refine .m ?_
     refine .m ?_
     refine .i ?_ (z:=geq_f (by omega))
     refine .done (.ff rfl (.skip ?_))
     have z1:=cells_ld (m:=u) (j:=jj) (k:=(i:Nat)) (p:=i) rfl (by omega)
     have z2:=cells_ld (m:=u) (j:=jj) (k:=(a:Nat)+(x:Nat)) (p:=a+x) (by omega) (by omega)
     have z3:=cells_st (m:=u) (j:=jj) (k:=(i:Nat)) (x:=at0 u (a+x)) (p:=i) rfl (by omega)
     have z4:=cells_st (m:=(u).set (i) (at0 u (a+x))) (j:=jj) (k:=(a:Nat)+(x:Nat)) (x:=at0 u (i)) (p:=a+x) (by omega) (by rw[List.length_set];omega)
     have z5:=cells_le (m:=u) (j:=jj) (k:=(i:Nat)) (p:=i) rfl (by omega)
     have z6:=cells_le (m:=(u).set (i) (at0 u (a+x))) (j:=jj) (k:=(a:Nat)+(x:Nat)) (p:=a+x) (by omega) (by rw[List.length_set];omega)
     refine Tc.dr [17,19] [1] mixed rfl ?_
     refine .q 0 rfl .mv ?_
     refine .q 1 rfl .mv ?_
     refine Ta.tkw 2 (by kernel_rfl) rfl rfl rfl (by decide) rfl rfl (OpV.take .mv) ?_
     refine Ta.tkw 3 (by kernel_rfl) rfl rfl rfl (by decide) rfl rfl (OpV.take .mv) ?_
     refine Ta.tkw 4 (by kernel_rfl) rfl rfl rfl (by decide) rfl rfl (OpV.take .mv) ?_
     refine Ta.tkw 5 (by kernel_rfl) rfl rfl rfl (by decide) rfl rfl (OpV.take (.it (zz:=add_in (by omega) (by omega)))) ?_
     refine .q 6 rfl .mv ?_
     refine .q 7 rfl .mv ?_
     refine .q 8 rfl .mv ?_
     refine .q 9 rfl (.it (zz:=add_in (by omega) (by omega))) ?_
     refine .q 10 rfl .ia ?_
     refine .q 11 rfl (.ld 1) ?_
     refine Ta.tkw 12 (by kernel_rfl) rfl rfl rfl (by decide) rfl rfl (OpV.take .mv) ?_
     refine Ta.tkw 13 (by kernel_rfl) rfl rfl rfl (by decide) rfl rfl (OpV.take .mv) ?_
     refine Ta.tkw 14 (by kernel_rfl) rfl rfl rfl (by decide) rfl rfl (OpV.take .ia) ?_
     refine .q 15 rfl (.ld 1) ?_
     refine .q 16 rfl .ia ?_
     refine Ta.each [17] (by kernel_rfl) rfl ⟨TaOp.mk rfl rfl rfl (.st 1 (zz:=⟨S2.mk (by exact List.sublist_append_left _ _) (.inl (by kernel_rfl)),?_⟩)),trivial⟩
     refine Ta.tkw 18 (by kernel_rfl) rfl rfl rfl (by decide) rfl rfl (OpV.take .ia) ?_
     refine Ta.each [19] (by kernel_rfl) rfl ⟨TaOp.mk rfl rfl rfl (.st 1 (zz:=⟨S2.mk (by exact List.sublist_append_left _ _) (.inl (by kernel_rfl)),?_⟩)),trivial⟩
     refine Ta.done (by kernel_rfl) ?_
     refine .inBlock (.r ?_)
     refine .m ?_
     refine .i ?_ (z:=add_in (by omega) (by omega))
     refine .g ?_
     refine .done ?_
     exact Tc.db (ih ⟨(i+1,z,swapL u i (a+x)),by simp only;omega,by simp only;omega,g3.trans (Turned.swap (by omega) (by omega) (by omega) (by omega))⟩ (by simp only;omega))
   · have e5:((x:Nat):Int)-((m:Nat):Int)=((x-m:Nat):Int):=by omega
     refine .r ?_
     refine .m ?_
     refine .m ?_
     refine .i ?_ (z:=geq_t (by omega))
     refine .done (.tt rfl (.r ?_))
     refine .m ?_
     refine .m ?_
     refine .i ?_ (z:=sub_in (by omega) (by omega))
     refine .g ?_
     refine .done ?_
     rw[e5]
     have z1:=cells_ld (m:=u) (j:=jj) (k:=(i:Nat)) (p:=i) rfl (by omega)
     have z2:=cells_ld (m:=u) (j:=jj) (k:=(a:Nat)+((x-m:Nat):Int)) (p:=a+(x-m)) (by omega) (by omega)
     have z3:=cells_st (m:=u) (j:=jj) (k:=(i:Nat)) (x:=at0 u (a+(x-m))) (p:=i) rfl (by omega)
     have z4:=cells_st (m:=(u).set (i) (at0 u (a+(x-m)))) (j:=jj) (k:=(a:Nat)+((x-m:Nat):Int)) (x:=at0 u (i)) (p:=a+(x-m)) (by omega) (by rw[List.length_set];omega)
     have z5:=cells_le (m:=u) (j:=jj) (k:=(i:Nat)) (p:=i) rfl (by omega)
     have z6:=cells_le (m:=(u).set (i) (at0 u (a+(x-m)))) (j:=jj) (k:=(a:Nat)+((x-m:Nat):Int)) (p:=a+(x-m)) (by omega) (by rw[List.length_set];omega)
     refine Tc.dr [17,19] [1] mixed rfl ?_
     refine .q 0 rfl .mv ?_
     refine .q 1 rfl .mv ?_
     refine Ta.tkw 2 (by kernel_rfl) rfl rfl rfl (by decide) rfl rfl (OpV.take .mv) ?_
     refine Ta.tkw 3 (by kernel_rfl) rfl rfl rfl (by decide) rfl rfl (OpV.take .mv) ?_
     refine Ta.tkw 4 (by kernel_rfl) rfl rfl rfl (by decide) rfl rfl (OpV.take .mv) ?_
     refine Ta.tkw 5 (by kernel_rfl) rfl rfl rfl (by decide) rfl rfl (OpV.take (.it (zz:=add_in (by omega) (by omega)))) ?_
     refine .q 6 rfl .mv ?_
     refine .q 7 rfl .mv ?_
     refine .q 8 rfl .mv ?_
     refine .q 9 rfl (.it (zz:=add_in (by omega) (by omega))) ?_
     refine .q 10 rfl .ia ?_
     refine .q 11 rfl (.ld 1) ?_
     refine Ta.tkw 12 (by kernel_rfl) rfl rfl rfl (by decide) rfl rfl (OpV.take .mv) ?_
     refine Ta.tkw 13 (by kernel_rfl) rfl rfl rfl (by decide) rfl rfl (OpV.take .mv) ?_
     refine Ta.tkw 14 (by kernel_rfl) rfl rfl rfl (by decide) rfl rfl (OpV.take .ia) ?_
     refine .q 15 rfl (.ld 1) ?_
     refine .q 16 rfl .ia ?_
     refine Ta.each [17] (by kernel_rfl) rfl ⟨TaOp.mk rfl rfl rfl (.st 1 (zz:=⟨S2.mk (by exact List.sublist_append_left _ _) (.inl (by kernel_rfl)),?_⟩)),trivial⟩
     refine Ta.tkw 18 (by kernel_rfl) rfl rfl rfl (by decide) rfl rfl (OpV.take .ia) ?_
     refine Ta.each [19] (by kernel_rfl) rfl ⟨TaOp.mk rfl rfl rfl (.st 1 (zz:=⟨S2.mk (by exact List.sublist_append_left _ _) (.inl (by kernel_rfl)),?_⟩)),trivial⟩
     refine Ta.done (by kernel_rfl) ?_
     refine .inBlock (.r ?_)
     refine .m ?_
     refine .i ?_ (z:=add_in (by omega) (by omega))
     refine .g ?_
     refine .done ?_
     exact Tc.db (ih ⟨(i+1,z,swapL u i (a+(x-m))),by simp only;omega,by simp only;omega,g3.trans (Turned.swap (by omega) (by omega) (by omega) (by omega))⟩ (by simp only;omega))
 · refine .seq (.sr ?_)
   refine .m ?_
   refine .m ?_
   refine .m ?_
   refine .i ?_ (z:=by assumption)
   refine .i ?_ (z:=mul_in (by omega) (by omega))
   refine .i ?_ (z:=add_in (by omega) (by omega))
   refine .i ?_ (z:=add_in (by omega) (by omega))
   refine .i ?_ (z:=leq_f (by omega))
   refine .done (.ff rfl (.exit rfl ?_))
   refine Tc.overN (E:=en) hK Tryz.func178 Tryz.results178 (vs:= []) (by exact trivial) ?_
   exact fun H' hs=> SortQ.of hs (i:=1) rfl ⟨rfl,g3⟩
end
end Go.Proofs.YtpdaenfglbgfkaaGreatDoor
end
section
namespace Go.Proofs.YtpdaenfglbgfkaaGreatDoor
open Go.RL
set_option maxRecDepth 10000
def Diff(l:List Int):Prop:=∀x,l.count x≤1
theorem Turned.diff {a b:Nat}{l m:List Int}(h:Turned a b l m)(hd:Diff l):Diff m:=fun x=> by rw[h.cnt];exact hd x
theorem Diff.ne {l:List Int}(h:Diff l){i k:Nat}(hik:i<k)(hk:k<l.length):at0 l i≠at0 l k:=fun e=> by
 have h1:=h (at0 l k)
 have h2:l=l.take k++l.drop k:=(List.take_append_drop k l).symm
 have h3:=congrArg (List.count (at0 l k)) h2
 rw[List.count_append] at h3
 have h4:at0 l k∈l.take k:=by
   rw[←e,List.mem_iff_getElem?]
   exact⟨i,by rw[List.getElem?_take_of_lt hik];exact at0_some (by omega)⟩
 have h5:at0 l k∈l.drop k:=by
   rw[List.mem_iff_getElem?]
   exact⟨0,by rw[List.getElem?_drop,Nat.add_zero];exact at0_some hk⟩
 have h6:=List.count_pos_iff.2 h4
 have h7:=List.count_pos_iff.2 h5
 omega
theorem Part.sorted2 {a b j:Nat}{u m w:List Int}(h:Part a b j u)(hl:b≤u.length)(h1:Turned (j+1) b u m)(s1:Srt (j+1) b m)(h2:Turned a j m w)(s2:Srt a j w):Turned a b u w∧Srt a b w:=by
 have hj:=h.aj
 have hb:=h.jb
 have hml:=h1.len
 refine⟨(h1.wide (by omega) (Nat.le_refl _)).trans (h2.wide (Nat.le_refl _) (by omega)),fun p q g1 g2 g3=> ?_⟩
 have ej:at0 w j=at0 u j:=by rw[h2.out j (.inr (Nat.le_refl _)),h1.out j (.inl (by omega))]
 have lo:∀k,a≤k→k<j→at0 w k≤at0 u j:=fun k c1 c2=>
   h2.all (by omega) (P:=fun x=> x≤at0 u j) (fun k c3 c4=> by rw[h1.out k (.inl (by omega))];exact Int.le_of_lt (h.lo k c3 c4)) k c1 c2
 have hi:∀k,j<k→k<b→at0 u j≤at0 w k:=fun k c1 c2=> by
   rw[h2.out k (.inr (by omega))]
   exact h1.all (by omega) (P:=fun x=> at0 u j≤x) (fun k c3 c4=> h.hi k (by omega) c4) k (by omega) c2
 by_cases c1:q<j
 · exact s2 p q g1 g2 c1
 · by_cases c2:q=j
   · rw[c2,ej]
     exact lo p g1 (by omega)
   · by_cases c3:p<j
     · exact Int.le_trans (lo p g1 c3) (hi q (by omega) g3)
     · by_cases c4:p=j
       · rw[c4,ej]
         exact hi q (by omega) g3
       · rw[h2.out p (.inr (by omega)),h2.out q (.inr (by omega))]
         exact s1 p q (by omega) g2 g3
end Go.Proofs.YtpdaenfglbgfkaaGreatDoor
end
section
namespace Go.Proofs.YtpdaenfglbgfkaaGreatDoor
open Go.RL
set_option maxRecDepth 10000
set_option maxHeartbeats 16000000
def Ahead(a b:Nat)(u:List Int):Prop:=a=0∨∀i,a≤i→i<b→at0 u (a-1)<at0 u i
def Glue(l:List Int)(a b a' b':Nat)(u:List Int):Prop:=∀m,Turned a' b' u m→Srt a' b' m→Turned a b l m∧Srt a b m
theorem Glue.turn {l u w:List Int}{a b a' b':Nat}(h:Glue l a b a' b' u)(k:Turned a' b' u w):Glue l a b a' b' w:=fun m h1 h2=> h m (k.trans h1) h2
theorem Ahead.turn {a b:Nat}{u w:List Int}(h:Ahead a b u)(k:Turned a b u w)(hb:b≤u.length)(_:a≤b):Ahead a b w:=by
 rcases h with h|h
 · exact .inl h
 · by_cases h0:a=0
   · exact .inl h0
   · refine .inr fun i h1 h2=> ?_
     rw[k.out (a-1) (.inl (by omega))]
     exact k.all hb (P:=fun x=> at0 u (a-1)<x) h i h1 h2
theorem Ahead.left {a b c:Nat}{u:List Int}(h:Ahead a b u)(k:c≤b):Ahead a c u:=by
 rcases h with h|h
 · exact .inl h
 · exact .inr fun i h1 h2=> h i h1 (by omega)
theorem Ahead.keep {a c b:Nat}{u w:List Int}(h:Ahead a c u)(k:Turned (c+1) b u w):Ahead a c w:=by
 rcases h with h|h
 · exact .inl h
 · refine .inr fun i h1 h2=> ?_
   rw[k.out (a-1) (.inl (by omega)),k.out i (.inl (by omega))]
   exact h i h1 h2
theorem Glue.right {l u x:List Int}{a b a' b' c:Nat}(h:Glue l a b a' b' u)(k:Part a' b' c u)(hl:b'≤u.length)(h1:Turned a' c u x)(s1:Srt a' c x):Glue l a b (c+1) b' x:=fun m h2 s2=> by
 obtain⟨g1,g2⟩:=k.sorted hl h1 s1 h2 s2
 exact h m g1 g2
theorem Glue.left {l u x:List Int}{a b a' b' c:Nat}(h:Glue l a b a' b' u)(k:Part a' b' c u)(hl:b'≤u.length)(h1:Turned (c+1) b' u x)(s1:Srt (c+1) b' x):Glue l a b a' c x:=fun m h2 s2=> by
 obtain⟨g1,g2⟩:=k.sorted2 hl h1 s1 h2 s2
 exact h m g1 g2
theorem Part.ahead {a b c:Nat}{u x:List Int}(k:Part a b c u)(h1:Turned a c u x)(hd:Diff x)(hl:b≤x.length):Ahead (c+1) b x:=.inr fun i g1 g2=> by
 have e:c+1-1=c:=by omega
 rw[e]
 have h2:=k.hi i (by omega) g2
 have h3:=hd.ne (i:=c) (k:=i) (by omega) (by omega)
 rw[←h1.out c (.inr (Nat.le_refl _)),←h1.out i (.inr (by omega))] at h2
 omega
section
variable(M:Md Tryz.prog)
theorem pdq_c (sb:Nat)(jj:List Value)(n cap:Nat)(h40:n≤40):∀(d:Nat) (H:View) (l:List Int) (a b lim:Nat),b-a<d→n=l.length→a≤b→b≤n→lim≤100→Diff l→Ahead a b l→H sb=some (true,.cells ⟨intsL l++jj⟩ 3 (0,0))→
   CallT M 148 #[.slice (some ⟨sb,0,none⟩) n cap,.int .i64 (a:Nat),.int .i64 (b:Nat),.int .i64 (lim:Nat)] H (SortQ H sb jj (fun v m=> v=.tuple ⟨[]⟩∧Turned a b l m∧Srt a b m)):=by
 intro d
 induction d with
 | zero=> intro H l a b lim hd;omega
 | succ d ihd=>
 intro H l a b lim hd hn hab hb hlim hdf hah hS
 refine CallT.enter (vs:= [.slice (some ⟨sb,0,none⟩) n cap,.int .i64 (a:Nat),.int .i64 (b:Nat),.int .i64 (lim:Nat)]) Tryz.func148 rfl Tryz.ntmps148 (Nat.le_of_ble_eq_true rfl) (SymSt.pull hS) fun St c cs hK=> ?_
 refine .sr ?_
 refine .g ?_
 refine .done (.sr ?_)
 refine .g ?_
 refine .done (.block ?_)
 refine Tc.db (Tc.loopInv (σ:= { s:Nat×Nat×Nat×Bool×Bool×List Int//a≤s.1∧s.1≤s.2.1∧s.2.1≤b∧s.2.2.1≤lim∧Turned a b l s.2.2.2.2.2∧Glue l a b s.1 s.2.1 s.2.2.2.2.2∧Ahead s.1 s.2.1 s.2.2.2.2.2 }) (fun s=> ([(0,.slice (some ⟨sb,0,none⟩) n cap),(1,.int .i64 (s.1.1:Nat)),(2,.int .i64 (s.1.2.1:Nat)),(3,.int .i64 (s.1.2.2.1:Nat)),(8,.bool s.1.2.2.2.1),(9,.bool s.1.2.2.2.2.1)],[(sb,true,.cells ⟨intsL s.1.2.2.2.2.2++jj⟩ 3 (0,0))])) (fun s=> s.1.2.1-s.1.1) ?_
   ⟨(a,b,lim,true,true,l),Nat.le_refl _,hab,Nat.le_refl _,Nat.le_refl _,Turned.refl ..,fun m h1 h2=> ⟨h1,h2⟩,hah⟩)
 rintro⟨⟨a',b',lm,wb,wp,u⟩,g1,g2,g3,g4,g5,g6,g7⟩ ih
 simp only at g1 g2 g3 g4 g5 g6 g7
 have hul:=g5.len
 have hdu:=g5.diff hdf
 obtain⟨m,hm⟩:∃m,m=b'-a':=⟨_,rfl⟩
 have e0:((b':Nat):Int)-((a':Nat):Int)=((m:Nat):Int):=by omega
 show Tc M St _ _ _ _ [(0,.slice (some ⟨sb,0,none⟩) n cap),(1,.int .i64 (a':Nat)),(2,.int .i64 (b':Nat)),(3,.int .i64 (lm:Nat)),(8,.bool wb),(9,.bool wp)] [(sb,true,.cells ⟨intsL u++jj⟩ 3 (0,0))] _ _
 refine .block (.sr ?_)
 refine .m ?_
 refine .m ?_
 refine .i ?_ (z:=sub_in (by omega) (by omega))
 refine .g ?_
 refine .done ?_
 rw[e0]
 refine .seq (.seq ?_)
 by_cases c1:m≤12
 · refine .r ?_
   refine .m ?_
   refine .i ?_ (z:=leq_t (by omega))
   refine .done (.tt rfl (.sr ?_))
   refine .m ?_
   refine .m ?_
   refine .m ?_
   refine .e (Or.sorts (l:=u) 0 (fun v m=> v=.tuple ⟨[]⟩∧Turned a' b' u m∧Srt a' b' m) rfl rfl rfl rfl rfl (by decide) rfl (fun H hs=> .f ca176 rfl (insertion_c M H sb u jj n cap a' b' (by omega) (by omega) (by omega) (by omega) (hs.get (i:=0) rfl))) (fun v w ⟨_,wt,ws⟩=> ?_))
   refine .done ?_
   refine Tc.retN (E:=en) hK Tryz.func148 Tryz.results148 (vs:= []) (by exact trivial) ?_
   exact fun H' hs=> SortQ.of hs (i:=0) rfl ⟨rfl,g6 w wt ws⟩
 · refine .r ?_
   refine .m ?_
   refine .i ?_ (z:=leq_f (by omega))
   refine .done (.ff rfl (.skip (.seq (.seq ?_))))
   by_cases c2:lm=0
   · refine .r ?_
     refine .m ?_
     refine .i ?_ (z:=eql_t (by omega))
     refine .done (.tt rfl (.sr ?_))
     refine .m ?_
     refine .m ?_
     refine .m ?_
     refine .e (Or.sorts (l:=u) 0 (fun v m=> v=.tuple ⟨[]⟩∧Turned a' b' u m∧Srt a' b' m) rfl rfl rfl rfl rfl (by decide) rfl (fun H hs=> .f ca177 rfl (heapSort_c M H sb u jj n cap a' b' (by omega) (by omega) (by omega) (by omega) (hs.get (i:=0) rfl))) (fun v w ⟨_,wt,ws⟩=> ?_))
     refine .done ?_
     refine Tc.retN (E:=en) hK Tryz.func148 Tryz.results148 (vs:= []) (by exact trivial) ?_
     exact fun H' hs=> SortQ.of hs (i:=0) rfl ⟨rfl,g6 w wt ws⟩
   · refine .r ?_
     refine .m ?_
     refine .i ?_ (z:=eql_f (by omega))
     refine .done (.ff rfl (.skip (.seq ?_)))
     refine Tc.via (fun R' L'=> ∃(lm1:Nat) (x:List Int),lm1≤lm∧Turned a' b' u x∧AllIn [(0,.slice (some ⟨sb,0,none⟩) n cap),(1,.int .i64 (a':Nat)),(2,.int .i64 (b':Nat)),(3,.int .i64 (lm1:Nat)),(8,.bool wb),(9,.bool wp),(10,.int .i64 (m:Nat))] R'∧L'= [(sb,true,.cells ⟨intsL x++jj⟩ 3 (0,0))]) ?_ (fun fin=> ?_)
     · rintro R' _ ⟨lm1,x,o1,o2,hRR,rfl⟩
       refine Tc.dropB ?_ hRR (List.Sublist.refl _)
       have hxl:=o2.len
       refine .sr ?_
       refine .m ?_
       refine .m ?_
       refine .m ?_
       refine .e (Or.callNew pivV (fun _=> []) (fun s:Nat×Nat=> a'≤s.1∧s.1<b'∧s.2≤2) rfl rfl rfl rfl rfl (by decide) (fun _=> by simp) (fun H hs=> .f ca179 rfl (choosePivot_c M H sb true x jj n cap a' b' (by omega) (by omega) (by omega) (by omega) (by omega) (hs.get (i:=0) rfl))) (fun⟨p,h⟩ ⟨v1,v2,v3⟩=> ?_))
       refine .m ?_
       refine .x .et ?_
       refine .x .et ?_
       refine .g ?_
       refine .g ?_
       refine .done ?_
       simp only at v1 v2 v3
       refine .seq ?_
       refine Tc.via (fun R' L'=> ∃(p:Nat) (y:List Int),a'≤p∧p<b'∧Turned a' b' x y∧(∃h:Nat,AllIn [(0,.slice (some ⟨sb,0,none⟩) n cap),(1,.int .i64 (a':Nat)),(2,.int .i64 (b':Nat)),(3,.int .i64 (lm1:Nat)),(8,.bool wb),(9,.bool wp),(10,.int .i64 (m:Nat)),(11,.int .i64 (p:Nat)),(12,.int .i64 (h:Nat))] R')∧L'= [(sb,true,.cells ⟨intsL y++jj⟩ 3 (0,0))]) ?_ (fun fin=> ?_)
       · clear v1 v2 v3
         rintro R' _ ⟨p,y,v1,v2,o3,⟨h,hRR⟩,rfl⟩
         refine Tc.dropB ?_ hRR (List.Sublist.refl _)
         have hyl:=o3.len
         refine .seq ?_
         refine Tc.via (fun R' L'=> AllIn [(0,.slice (some ⟨sb,0,none⟩) n cap),(1,.int .i64 (a':Nat)),(2,.int .i64 (b':Nat)),(3,.int .i64 (lm1:Nat)),(8,.bool wb),(9,.bool wp),(10,.int .i64 (m:Nat)),(11,.int .i64 (p:Nat))] R'∧L'= [(sb,true,.cells ⟨intsL y++jj⟩ 3 (0,0))]) ?_ (fun fin=> ?_)
         · rintro R' _ ⟨hRR,rfl⟩
           refine Tc.dropB ?_ hRR (List.Sublist.refl _)
           clear hRR
           refine .seq ?_
           have g5y:=(g5.trans ((o2.trans o3).wide g1 g3))
           have gy:Glue l a b a' b' y:=g6.turn (o2.trans o3)
           have ay:Ahead a' b' y:=g7.turn (o2.trans o3) (by omega) (by omega)
           have hdy:=(o2.trans o3).diff hdu
           refine Tc.via (fun R' L'=> AllIn [(0,.slice (some ⟨sb,0,none⟩) n cap),(1,.int .i64 (a':Nat)),(2,.int .i64 (b':Nat)),(3,.int .i64 (lm1:Nat)),(8,.bool wb),(9,.bool wp),(10,.int .i64 (m:Nat)),(11,.int .i64 (p:Nat))] R'∧L'= [(sb,true,.cells ⟨intsL y++jj⟩ 3 (0,0))]) ?_ (fun fin=> ?_)
           · rintro R' _ ⟨hRR,rfl⟩
             refine Tc.dropB ?_ hRR (List.Sublist.refl _)
             clear hRR
             refine .sr ?_
             refine .m ?_
             refine .m ?_
             refine .m ?_
             refine .m ?_
             refine .e (Or.sortsF (l:=y) 0 (fun s:Nat×Bool×List Int=> .tuple ⟨[.int .i64 (s.1:Nat),.bool s.2.1]⟩) (fun s=> s.2.2) (fun s=> Turned a' b' y s.2.2∧Part a' b' s.1 s.2.2) rfl rfl rfl rfl rfl (by decide) rfl (fun H hs=> .f ca184 rfl (partition_c M H sb y jj n cap a' b' p (by omega) (by omega) (by omega) (by omega) (hs.get (i:=0) rfl))) (fun⟨mid,al,w⟩ ⟨k1,k2⟩=> ?_))
             refine .m ?_
             refine .x .et ?_
             refine .x .et ?_
             refine .g ?_
             refine .g ?_
             refine .done ?_
             simp only at k1 k2
             have k3:=k2.aj
             have k4:=k2.jb
             have hwl:=k1.len
             have hdw:=k1.diff hdy
             have gw:Glue l a b a' b' w:=gy.turn k1
             have aw:Ahead a' b' w:=ay.turn k1 (by omega) (by omega)
             have e1:((mid:Nat):Int)-((a':Nat):Int)=((mid-a':Nat):Int):=by omega
             have e2:((b':Nat):Int)-((mid:Nat):Int)=((b'-mid:Nat):Int):=by omega
             have hq:intBin .quo .i64 ((m:Nat):Int) 8=some (.int .i64 ((m/8:Nat):Int)):=by
               rw[quo_in (by omega) (by omega) (by omega)]
               congr 2
             have hgt:∀x y:Nat,intBin .geq .i64 ((x:Nat):Int) ((y:Nat):Int)=some (.bool (decide (y≤x))):=fun x y=> by
               by_cases c:y≤x
               · rw[decide_eq_true c];exact geq_t (by omega)
               · rw[decide_eq_false c];exact geq_f (by omega)
             have hg1:=hgt (mid-a') (m/8)
             have hg2:=hgt (b'-mid) (m/8)
             refine .sr ?_
             refine .m ?_
             refine .g ?_
             refine .done (.sr ?_)
             refine .m ?_
             refine .m ?_
             refine .i ?_ (z:=sub_in (by omega) (by omega))
             refine .m ?_
             refine .m ?_
             refine .i ?_ (z:=sub_in (by omega) (by omega))
             refine .g ?_
             refine .g ?_
             refine .done ?_
             rw[e1,e2]
             refine .sr ?_
             refine .m ?_
             refine .i ?_ (z:=by assumption)
             refine .g ?_
             refine .done (.seq ?_)
             by_cases c5:mid-a'<b'-mid
             · refine .r ?_
               refine .m ?_
               refine .m ?_
               refine .i ?_ (z:=lss_t (by omega))
               refine .done (.tt rfl (.sr ?_))
               refine .m ?_
               refine .m ?_
               refine .i ?_ (z:=hg1)
               refine .g ?_
               refine .done (.sr ?_)
               refine .m ?_
               refine .m ?_
               refine .m ?_
               refine .m ?_
               refine .e (Or.sorts (l:=w) 0 (fun v m=> v=.tuple ⟨[]⟩∧Turned a' mid w m∧Srt a' mid m) rfl rfl rfl rfl rfl (by decide) rfl (fun H hs=> .f ca148 rfl (ihd H w a' mid lm1 (by omega) (by omega) (by omega) (by omega) (by omega) hdw (aw.left (by omega)) (hs.get (i:=0) rfl))) (fun v x ⟨_,xt,xs⟩=> ?_))
               refine .done (.r ?_)
               refine .m ?_
               refine .i ?_ (z:=add_in (by omega) (by omega))
               refine .g ?_
               refine .done (.inBlock ?_)
               have hxn:=xt.len
               have r1:Turned a b l x:=g5y.trans ((k1.trans (xt.wide (by omega) (by omega))).wide (by omega) (by omega))
               have r2:Glue l a b (mid+1) b' x:=gw.right k2 (by omega) xt xs
               have r3:Ahead (mid+1) b' x:=k2.ahead xt (xt.diff hdw) (by omega)
               have r4:lm1≤lim:=by omega
               have r5:a≤mid+1:=by omega
               have r6:mid+1≤b':=by omega
               exact Tc.db (ih ⟨(mid+1,b',lm1,decide (m/8≤mid-a'),al,x),r5,r6,g3,r4,r1,r2,r3⟩ (by simp only;omega))
             · refine .r ?_
               refine .m ?_
               refine .m ?_
               refine .i ?_ (z:=lss_f (by omega))
               refine .done (.ff rfl (.sr ?_))
               refine .m ?_
               refine .m ?_
               refine .i ?_ (z:=hg2)
               refine .g ?_
               refine .done (.sr ?_)
               refine .m ?_
               refine .m ?_
               refine .i ?_ (z:=add_in (by omega) (by omega))
               refine .m ?_
               refine .m ?_
               refine .e (Or.sorts (l:=w) 0 (fun v m=> v=.tuple ⟨[]⟩∧Turned (mid+1) b' w m∧Srt (mid+1) b' m) rfl rfl rfl rfl rfl (by decide) rfl (fun H hs=> .f ca148 rfl (ihd H w (mid+1) b' lm1 (by omega) (by omega) (by omega) (by omega) (by omega) hdw (k2.ahead (Turned.refl a' mid w) hdw (by omega)) (hs.get (i:=0) rfl))) (fun v x ⟨_,xt,xs⟩=> ?_))
               refine .done (.r ?_)
               refine .m ?_
               refine .g ?_
               refine .done (.inBlock ?_)
               have r1:Turned a b l x:=g5y.trans ((k1.trans (xt.wide (by omega) (by omega))).wide (by omega) (by omega))
               have r2:Glue l a b a' mid x:=gw.left k2 (by omega) xt xs
               have r3:Ahead a' mid x:=(aw.left (by omega)).keep xt
               have r4:lm1≤lim:=by omega
               have r5:a'≤mid:=by omega
               have r6:mid≤b:=by omega
               exact Tc.db (ih ⟨(a',mid,lm1,decide (m/8≤b'-mid),al,x),g1,r5,r6,r4,r1,r2,r3⟩ (by simp only;omega))
           · by_cases c3:a'=0
             · subst c3
               refine .seq ?_
               refine Tc.dr [] [] mixed rfl ?_
               refine .q 0 rfl .mv ?_
               refine .q 1 rfl (.it (zz:=gtr_f (by omega))) ?_
               refine .q 2 rfl .mv ?_
               refine Ta.ps 3 (by kernel_rfl) rfl rfl rfl (by decide) rfl rfl ?_
               refine Ta.ps 4 (by kernel_rfl) rfl rfl rfl (by decide) rfl rfl ?_
               refine Ta.ps 5 (by kernel_rfl) rfl rfl rfl (by decide) rfl rfl ?_
               refine Ta.ps 6 (by kernel_rfl) rfl rfl rfl (by decide) rfl rfl ?_
               refine Ta.ps 7 (by kernel_rfl) rfl rfl rfl (by decide) rfl rfl ?_
               refine Ta.ps 8 (by kernel_rfl) rfl rfl rfl (by decide) rfl rfl ?_
               refine Ta.ps 9 (by kernel_rfl) rfl rfl rfl (by decide) rfl rfl ?_
               refine Ta.ps 10 (by kernel_rfl) rfl rfl rfl (by decide) rfl rfl ?_
               refine Ta.ps 11 (by kernel_rfl) rfl rfl rfl (by decide) rfl rfl ?_
               refine Ta.ps 12 (by kernel_rfl) rfl rfl rfl (by decide) rfl rfl ?_
               refine Ta.ps 13 (by kernel_rfl) rfl rfl rfl (by decide) rfl rfl ?_
               refine .q 14 rfl .pk ?_
               refine Ta.done (by kernel_rfl) ?_
               refine .ff rfl (.skip ?_)
               exact Tc.db (fin [(0,.slice (some ⟨sb,0,none⟩) n cap),(1,.int .i64 (0:Nat)),(2,.int .i64 (b':Nat)),(3,.int .i64 (lm1:Nat)),(8,.bool wb),(9,.bool wp),(10,.int .i64 (m:Nat)),(11,.int .i64 (p:Nat))] [(sb,true,.cells ⟨intsL y++jj⟩ 3 (0,0))] ⟨⟨rfl,rfl,rfl,rfl,rfl,rfl,rfl,rfl,trivial⟩,rfl⟩)
             · have hlt:at0 y (a'-1)<at0 y p:=by
                 rcases ay with h0|h0
                 · exact absurd h0 c3
                 · exact h0 p v1 v2
               have ea:((a':Nat):Int)-1=((a'-1:Nat):Int):=by omega
               have y1:=cells_ld (m:=y) (j:=jj) (k:=((a':Nat):Int)-1) (p:=a'-1) (by omega) (by omega)
               have y2:=cells_ld (m:=y) (j:=jj) (k:=(p:Nat)) (p:=p) rfl (by omega)
               refine .seq ?_
               refine Tc.dr [] [] mixed rfl ?_
               refine .q 0 rfl .mv ?_
               refine .q 1 rfl (.it (zz:=gtr_t (by omega))) ?_
               refine .q 2 rfl .mv ?_
               refine .q 3 rfl .mv ?_
               refine .q 4 rfl .mv ?_
               refine .q 5 rfl (.it (zz:=sub_in (by omega) (by omega))) ?_
               refine .q 6 rfl .ia ?_
               refine .q 7 rfl (.ld 0) ?_
               refine .q 8 rfl .mv ?_
               refine .q 9 rfl .mv ?_
               refine .q 10 rfl .ia ?_
               refine .q 11 rfl (.ld 0) ?_
               refine .z 12 rfl (OpV.takeCall rfl rfl rfl rfl (fun H hs=> .f ca182 rfl (CallT.is (.bool true) (by rewrite [decide_eq_true hlt];rfl) (Less_c M H (at0 y (a'-1)) (at0 y p))))) ?_
               refine .q 13 rfl .nt ?_
               refine .q 14 rfl .pk ?_
               refine Ta.done (by kernel_rfl) ?_
               refine .ff rfl (.skip ?_)
               exact Tc.db (fin [(0,.slice (some ⟨sb,0,none⟩) n cap),(1,.int .i64 (a':Nat)),(2,.int .i64 (b':Nat)),(3,.int .i64 (lm1:Nat)),(8,.bool wb),(9,.bool wp),(10,.int .i64 (m:Nat)),(11,.int .i64 (p:Nat))] [(sb,true,.cells ⟨intsL y++jj⟩ 3 (0,0))] ⟨⟨rfl,rfl,rfl,rfl,rfl,rfl,rfl,rfl,trivial⟩,rfl⟩)
         · refine .seq ?_
           by_cases c4:wb=true∧wp=true∧h=1
           · obtain⟨rfl,rfl,rfl⟩:=c4
             refine .r ?_
             refine .m ?_
             refine .m ?_
             refine .m ?_
             refine .x .pk ?_
             refine .m ?_
             refine .m ?_
             refine .i ?_ (z:=eql_t (by omega))
             refine .x .pk ?_
             refine .done (.tt rfl (.sr ?_))
             refine .m ?_
             refine .m ?_
             refine .m ?_
             refine .e (Or.callNew (fun t:Bool=> .bool t) (fun _=> []) (fun t:Bool=> t=true→Srt a' b' y) rfl rfl rfl rfl rfl (by decide) (fun _=> by simp) (fun H hs=> .f ca181 rfl (partial_c M H sb true y jj n cap a' b' (by omega) (by omega) (by omega) (by omega) (by omega) (hs.get (i:=0) rfl))) (fun t ht=> ?_))
             refine .done ?_
             cases t
             · refine .ff rfl (.skip ?_)
               exact Tc.db (fin [(0,.slice (some ⟨sb,0,none⟩) n cap),(1,.int .i64 (a':Nat)),(2,.int .i64 (b':Nat)),(3,.int .i64 (lm1:Nat)),(8,.bool true),(9,.bool true),(10,.int .i64 (m:Nat)),(11,.int .i64 (p:Nat))] [(sb,true,.cells ⟨intsL y++jj⟩ 3 (0,0))] ⟨⟨rfl,rfl,rfl,rfl,rfl,rfl,rfl,rfl,trivial⟩,rfl⟩)
             · have hall:=(g6.turn (o2.trans o3)) y (Turned.refl ..) (ht rfl)
               refine .tt rfl ?_
               refine Tc.retN (E:=en) hK Tryz.func148 Tryz.results148 (vs:= []) (by exact trivial) ?_
               exact fun H' hs=> SortQ.of hs (i:=0) rfl ⟨rfl,hall⟩
           · have c5:wb=true→wp=true→h≠1:=fun e1 e2 e3=> c4 ⟨e1,e2,e3⟩
             cases wb
             · cases wp
               · refine .r ?_
                 refine .m ?_
                 refine .m ?_
                 refine .sk ?_
                 refine .x .pk ?_
                 refine .m ?_
                 refine .sk ?_
                 refine .sk ?_
                 refine .x .pk ?_
                 refine .done (.ff rfl (.skip ?_))
                 exact Tc.db (fin [(0,.slice (some ⟨sb,0,none⟩) n cap),(1,.int .i64 (a':Nat)),(2,.int .i64 (b':Nat)),(3,.int .i64 (lm1:Nat)),(8,.bool false),(9,.bool false),(10,.int .i64 (m:Nat)),(11,.int .i64 (p:Nat))] [(sb,true,.cells ⟨intsL y++jj⟩ 3 (0,0))] ⟨⟨rfl,rfl,rfl,rfl,rfl,rfl,rfl,rfl,trivial⟩,rfl⟩)
               · refine .r ?_
                 refine .m ?_
                 refine .m ?_
                 refine .sk ?_
                 refine .x .pk ?_
                 refine .m ?_
                 refine .sk ?_
                 refine .sk ?_
                 refine .x .pk ?_
                 refine .done (.ff rfl (.skip ?_))
                 exact Tc.db (fin [(0,.slice (some ⟨sb,0,none⟩) n cap),(1,.int .i64 (a':Nat)),(2,.int .i64 (b':Nat)),(3,.int .i64 (lm1:Nat)),(8,.bool false),(9,.bool true),(10,.int .i64 (m:Nat)),(11,.int .i64 (p:Nat))] [(sb,true,.cells ⟨intsL y++jj⟩ 3 (0,0))] ⟨⟨rfl,rfl,rfl,rfl,rfl,rfl,rfl,rfl,trivial⟩,rfl⟩)
             · cases wp
               · refine .r ?_
                 refine .m ?_
                 refine .m ?_
                 refine .m ?_
                 refine .x .pk ?_
                 refine .m ?_
                 refine .sk ?_
                 refine .sk ?_
                 refine .x .pk ?_
                 refine .done (.ff rfl (.skip ?_))
                 exact Tc.db (fin [(0,.slice (some ⟨sb,0,none⟩) n cap),(1,.int .i64 (a':Nat)),(2,.int .i64 (b':Nat)),(3,.int .i64 (lm1:Nat)),(8,.bool true),(9,.bool false),(10,.int .i64 (m:Nat)),(11,.int .i64 (p:Nat))] [(sb,true,.cells ⟨intsL y++jj⟩ 3 (0,0))] ⟨⟨rfl,rfl,rfl,rfl,rfl,rfl,rfl,rfl,trivial⟩,rfl⟩)
               · have c6:=c5 rfl rfl
                 refine .r ?_
                 refine .m ?_
                 refine .m ?_
                 refine .m ?_
                 refine .x .pk ?_
                 refine .m ?_
                 refine .m ?_
                 refine .i ?_ (z:=eql_f (by omega))
                 refine .x .pk ?_
                 refine .done (.ff rfl (.skip ?_))
                 exact Tc.db (fin [(0,.slice (some ⟨sb,0,none⟩) n cap),(1,.int .i64 (a':Nat)),(2,.int .i64 (b':Nat)),(3,.int .i64 (lm1:Nat)),(8,.bool true),(9,.bool true),(10,.int .i64 (m:Nat)),(11,.int .i64 (p:Nat))] [(sb,true,.cells ⟨intsL y++jj⟩ 3 (0,0))] ⟨⟨rfl,rfl,rfl,rfl,rfl,rfl,rfl,rfl,trivial⟩,rfl⟩)
       · refine .seq ?_
         by_cases c4:h=2
         · have e1:((b':Nat):Int)-1-(((p:Nat):Int)-((a':Nat):Int))=((b'-1-(p-a'):Nat):Int):=by omega
           refine .r ?_
           refine .m ?_
           refine .i ?_ (z:=eql_t (by omega))
           refine .done (.tt rfl (.sr ?_))
           refine .m ?_
           refine .m ?_
           refine .m ?_
           refine .e (Or.sorts (l:=x) 0 (fun v m=> v=.tuple ⟨[]⟩∧Turned a' b' x m) rfl rfl rfl rfl rfl (by decide) rfl (fun H hs=> .f ca180 rfl (reverse_c M H sb x jj n cap a' b' (by omega) (by omega) (by omega) (by omega) (hs.get (i:=0) rfl))) (fun v y ⟨_,yt⟩=> ?_))
           refine .done (.sr ?_)
           refine .m ?_
           refine .i ?_ (z:=sub_in (by omega) (by omega))
           refine .m ?_
           refine .m ?_
           refine .i ?_ (z:=sub_in (by omega) (by omega))
           refine .i ?_ (z:=sub_in (by omega) (by omega))
           refine .g ?_
           refine .done ?_
           rw[e1]
           refine .r ?_
           refine .g ?_
           refine .done ?_
           exact Tc.db (fin [(0,.slice (some ⟨sb,0,none⟩) n cap),(1,.int .i64 (a':Nat)),(2,.int .i64 (b':Nat)),(3,.int .i64 (lm1:Nat)),(8,.bool wb),(9,.bool wp),(10,.int .i64 (m:Nat)),(11,.int .i64 (b'-1-(p-a'):Nat)),(12,.int .i64 (1:Nat))] [(sb,true,.cells ⟨intsL y++jj⟩ 3 (0,0))] ⟨b'-1-(p-a'),y,by omega,by omega,yt,⟨1,rfl,rfl,rfl,rfl,rfl,rfl,rfl,rfl,rfl,trivial⟩,rfl⟩)
         · refine .r ?_
           refine .m ?_
           refine .i ?_ (z:=eql_f (by omega))
           refine .done (.ff rfl (.skip ?_))
           exact Tc.db (fin [(0,.slice (some ⟨sb,0,none⟩) n cap),(1,.int .i64 (a':Nat)),(2,.int .i64 (b':Nat)),(3,.int .i64 (lm1:Nat)),(8,.bool wb),(9,.bool wp),(10,.int .i64 (m:Nat)),(11,.int .i64 (p:Nat)),(12,.int .i64 (h:Nat))] [(sb,true,.cells ⟨intsL x++jj⟩ 3 (0,0))] ⟨p,x,by omega,by omega,Turned.refl ..,⟨h,rfl,rfl,rfl,rfl,rfl,rfl,rfl,rfl,rfl,trivial⟩,rfl⟩)
     · refine .seq ?_
       cases wb
       · have e1:((lm:Nat):Int)-1=((lm-1:Nat):Int):=by omega
         refine .r ?_
         refine .m ?_
         refine .x .nt ?_
         refine .done (.tt rfl (.sr ?_))
         refine .m ?_
         refine .m ?_
         refine .m ?_
         refine .e (Or.sorts (l:=u) 0 (fun v m=> v=.tuple ⟨[]⟩∧Turned a' b' u m) rfl rfl rfl rfl rfl (by decide) rfl (fun H hs=> .f ca178 rfl (break_c M H sb u jj n cap a' b' (by omega) (by omega) (by omega) (by omega) (by omega) (hs.get (i:=0) rfl))) (fun v x ⟨_,xt⟩=> ?_))
         refine .done (.r ?_)
         refine .m ?_
         refine .i ?_ (z:=sub_in (by omega) (by omega))
         refine .g ?_
         refine .done ?_
         rw[e1]
         exact Tc.db (fin [(0,.slice (some ⟨sb,0,none⟩) n cap),(1,.int .i64 (a':Nat)),(2,.int .i64 (b':Nat)),(3,.int .i64 (lm-1:Nat)),(8,.bool false),(9,.bool wp),(10,.int .i64 (m:Nat))] [(sb,true,.cells ⟨intsL x++jj⟩ 3 (0,0))] ⟨lm-1,x,by omega,xt,⟨rfl,rfl,rfl,rfl,rfl,rfl,rfl,trivial⟩,rfl⟩)
       · refine .r ?_
         refine .m ?_
         refine .x .nt ?_
         refine .done (.ff rfl (.skip ?_))
         exact Tc.db (fin [(0,.slice (some ⟨sb,0,none⟩) n cap),(1,.int .i64 (a':Nat)),(2,.int .i64 (b':Nat)),(3,.int .i64 (lm:Nat)),(8,.bool true),(9,.bool wp),(10,.int .i64 (m:Nat))] [(sb,true,.cells ⟨intsL u++jj⟩ 3 (0,0))] ⟨lm,u,Nat.le_refl _,Turned.refl ..,⟨rfl,rfl,rfl,rfl,rfl,rfl,rfl,trivial⟩,rfl⟩)
end
end Go.Proofs.YtpdaenfglbgfkaaGreatDoor
end
section
namespace Go.Proofs.YtpdaenfglbgfkaaGreatDoor
open Go.RL
set_option maxRecDepth 10000
set_option maxHeartbeats 8000000
section
variable(M:Md Tryz.prog)(H:View)
theorem Sort_c(sb:Nat)(l:List Int)(jj:List Value)(n cap:Nat)(hn:n=l.length)(h40:n≤40)(hd:Diff l)(hS:H sb=some (true,.cells ⟨intsL l++jj⟩ 3 (0,0))):
   CallT M 92 #[.slice (some ⟨sb,0,none⟩) n cap] H (SortQ H sb jj (fun v m=> v=.tuple ⟨[]⟩∧Turned 0 n l m∧Srt 0 n m)):=by
 have hw:=u64_small n (by omega)
 have hb:=bl_u8 n (by omega)
 refine CallT.enter (vs:= [.slice (some ⟨sb,0,none⟩) n cap]) Tryz.func92 rfl Tryz.ntmps92 (Nat.le_of_ble_eq_true rfl) (SymSt.pull hS) fun St c cs hK=> ?_
 refine .sr ?_
 refine .m ?_
 refine .x .ln ?_
 refine .g ?_
 refine .done (.r ?_)
 refine .m ?_
 refine .m ?_
 refine .m ?_
 refine .x .cv ?_
 refine .c rfl rfl rfl rfl (fun H hs=> .f ca149 rfl (Len_c M H n (by omega))) ?_
 refine .e (Or.sorts (l:=l) 0 (fun v m=> v=.tuple ⟨[]⟩∧Turned 0 n l m∧Srt 0 n m) rfl rfl rfl rfl rfl (by decide) rfl (fun H hs=> .f ca148 rfl (pdq_c M sb jj n cap h40 (n+1) H l 0 n (bl n) (by omega) hn (by omega) (Nat.le_refl _) (by omega) hd (.inl rfl) (hs.get (i:=0) rfl))) (fun v m ⟨_,ht,hs⟩=> ?_))
 refine .done ?_
 refine Tc.overN (E:=en) hK Tryz.func92 Tryz.results92 (vs:= []) (by exact trivial) ?_
 exact fun H' hs'=> SortQ.of hs' (i:=0) rfl ⟨rfl,ht,hs⟩
end
def intOf:Value→Int
 | .int _ i=> i
 | _=> 0
theorem perm_ints {l:List Value}{k:List Int}(h:l.Perm (intsL k)):∃u:List Int,l=intsL u∧u.Perm k:=by
 refine⟨l.map intOf,?_,?_⟩
 · unfold intsL
   rw[List.map_map]
   symm
   have:∀v∈l,(((fun x=> Value.int .i64 x)∘intOf) v)=v:=fun v hv=> by
     have:=h.subset hv
     unfold intsL at this
     obtain⟨x,_,rfl⟩:=List.mem_map.1 this
     rfl
   rw[List.map_congr_left this,List.map_id']
 · have h2:=h.map intOf
   have:(intsL k).map intOf=k:=by
     unfold intsL
     rw[List.map_map]
     have:∀x∈k,(intOf∘fun x=> Value.int .i64 x) x=x:=fun x _=> rfl
     rw[List.map_congr_left this,List.map_id']
   rwa [this] at h2
theorem Srt.pairwise {m:List Int}(h:Srt 0 m.length m):m.Pairwise (· ≤·):=by
 rw[List.pairwise_iff_getElem]
 intro i j hi hj hij
 have:=h i j (Nat.zero_le _) hij hj
 unfold at0 at this
 rw[List.getElem?_eq_getElem hi,List.getElem?_eq_getElem hj] at this
 exact this
theorem sorted_is {u m k:List Int}(h:u.Perm k)(hk:k.Pairwise (· < ·))(ht:Turned 0 u.length u m)(hs:Srt 0 u.length m):m=k:=by
 have hmu:m.Perm k:=(List.perm_iff_count.2 ht.cnt).trans h
 rw[←ht.len] at hs
 exact List.Perm.eq_of_pairwise (le:=(· ≤·)) (fun a b _ _ h1 h2=> Int.le_antisymm h1 h2) hs.pairwise (hk.imp (fun h=> Int.le_of_lt h)) hmu
theorem diff_of {u k:List Int}(h:u.Perm k)(hk:k.Pairwise (· < ·)):Diff u:=fun x=> by
 rw[h.count_eq]
 exact List.nodup_iff_count.1 (List.nodup_iff_pairwise_ne.2 (hk.imp (fun h=> Int.ne_of_lt h))) x
theorem keepI_lt(p:Nat→Bool)(n:Nat):(keepI p n).Pairwise (· < ·):=by
 unfold keepI
 rw[List.pairwise_map]
 exact(List.Pairwise.filter p List.pairwise_lt_range).imp (fun h=> by exact_mod_cast h)
def Gl.with'(g:Gl 3 1)(m:List Value)(h:m.length=g.n):Gl 3 1:=⟨g.blk,g.n,g.cap,m,g.junk,by rw[h,Nat.mul_one],g.hc,g.hj,g.h0⟩
theorem Or.sortGl {M:Md Tryz.prog}{n:Nat}{H₀:View}{R:Rg}{L1:Bl}{o:Oper}{K:Rg→Bl→Prop}{cl:Go.Call}{x:Operand}{fv:Value}{d:Nat}(g:Gl 3 1)(u k:List Int)(hg:g.l=intsL u)(hp:u.Perm k)(hk:k.Pairwise (· < ·))(h40:k.length≤40)
   (hop:o.op=.call cl) (hcl:cl.callee=.value x) (hx:evR R x=some fv) (has:evRs R cl.args.toList=some [g.val]) (hd:o.dst=some d) (hn:d<n)
   (hc:∀(H:View) (Q:Value→View→Prop),CallT M 92 #[g.val] H Q→FnT M fv [g.val] H Q)
   (hK:∀g':Gl 3 1,g'.val=g.val→g'.n=g.n→g'.l=intsL k→K ((d,.tuple ⟨[]⟩)::R) (L1++g'.bl)):Or M n H₀ R (L1++g.bl) o K:=by
 have hul:u.length=g.n:=by have:=g.hl;rw[hg,intsL_len] at this;omega
 have hkl:k.length=g.n:=by rw[←hul];exact hp.length_eq.symm
 have hdu:=diff_of hp hk
 cases hb:g.blk with
 | none=>
   have hcap:=g.h0 hb
   have hgc:=g.hc
   have h0:g.n=0:=by omega
   have hk0:k= []:=List.eq_nil_of_length_eq_zero (by omega)
   have hu0:u= []:=List.eq_nil_of_length_eq_zero (by omega)
   have hbl:g.bl= []:=by unfold Gl.bl;rw[hb]
   have hv:g.val=.slice (g.blk.map fun b=> ⟨b,0,none⟩) g.n g.cap:=rfl
   refine Or.callNew (fun _:Unit=> .tuple ⟨[]⟩) (fun _=> []) (fun _=> True) hop hcl hx has hd hn (fun _=> by simp) (fun H hs=> hc H _ ?_) (fun _ _=> ?_)
   · rw[hv]
     exact CallT.mono (Sort_one M H _ g.n g.cap (by omega)) (fun v H' ⟨h1,h2⟩=> ⟨h1,(),h2,trivial,by simp⟩)
   · rw[List.append_nil]
     exact hK g rfl rfl (by rw[hg,hu0,hk0])
 | some b=>
   have hbl:g.bl= [(b,true,.cells ⟨intsL u++g.junk⟩ 3 (0,0))]:=by unfold Gl.bl;rw[hb,hg]
   have hv:g.val=.slice (some ⟨b,0,none⟩) g.n g.cap:=by unfold Gl.val;rw[hb];rfl
   rw[hbl]
   refine Or.sorts (l:=u) L1.length (fun v m=> v=.tuple ⟨[]⟩∧Turned 0 g.n u m∧Srt 0 g.n m) hop hcl hx has hd hn (by rw[List.getElem?_append_right (Nat.le_refl _),Nat.sub_self];rfl)
     (fun H hs=> hc H _ ?_) (fun v m ⟨h1,h2,h3⟩=> ?_)
   · rw[hv]
     exact Sort_c M H b u g.junk g.n g.cap hul.symm (by omega) hdu (hs.get (i:=L1.length) (by rw[List.getElem?_append_right (Nat.le_refl _),Nat.sub_self];rfl))
   · subst h1
     rw[←hul] at h2 h3
     have hm:=sorted_is hp hk h2 h3
     subst hm
     have:=hK (Gl.with' g (intsL m) (by rw[intsL_len];exact hkl)) rfl rfl rfl
     have hbl':(Gl.with' g (intsL m) (by rw[intsL_len];exact hkl)).bl= [(b,true,.cells ⟨intsL m++g.junk⟩ 3 (0,0))]:=by
       unfold Gl.bl Gl.with'
       simp only[hb]
     rw[hbl'] at this
     rw[List.set_append_right _ _ (Nat.le_refl _),Nat.sub_self]
     exact this
end Go.Proofs.YtpdaenfglbgfkaaGreatDoor
end
section
namespace Go.Proofs.YtpdaenfglbgfkaaGreatDoor
open Go.RL
set_option maxRecDepth 10000
set_option maxHeartbeats 4000000
section
variable(M:Md Tryz.prog)(H:View)
theorem Reads_c(k:Lk)(code:Nat)(hG:Glob H)(hk:k.ok=true)(hc:code<32):CallT M 21 #[k.val,.int .i64 code] H (ReadsQ (keepTo (k.canRead code) 32) (k.refused code) H):=by
 refine CallT.enter (vs:= [k.val,.int .i64 code]) Tryz.func21 rfl Tryz.ntmps21 (Nat.le_of_ble_eq_true rfl) (SymSt.nil _) fun St c cs hK=> ?_
 refine .sr ?_
 refine .e (.bx (zz:=fun b2=> ?_))
 refine .g ?_
 refine .g ?_
 refine .g ?_
 refine .done (.sr ?_)
 refine .x (.ld 0) ?_
 refine .m ?_
 refine .e (Or.callNew (fun x=> .tuple ⟨[k.val,letN code x,.int .i64 0]⟩) (letB code) (fun _=> True) rfl rfl rfl rfl rfl (by decide) (letB_nodup code) (fun H hs=> .f ca89 rfl (open_n M H k code (glob_le hG hs.base) hk hc)) (fun x hx=> ?_))
 refine .m ?_
 refine .x .et ?_
 refine .x .et ?_
 refine .x .et ?_
 refine .e (.al (zz:=fun b7=> ?_))
 refine .e (.al (zz:=fun b8=> ?_))
 refine .e (.st 1 (zz:=?_))
 refine .e (.st 0 (zz:=?_))
 refine .g ?_
 refine .done (.seq (.sr ?_))
 refine .m ?_
 refine .i ?_ (z:=neq_f (by omega))
 refine .done (.ff rfl (.skip (.sr ?_)))
 refine .g ?_
 refine .done (.seq (.sr ?_))
 refine .x (.ld 1) ?_
 refine .x (.ld 0) ?_
 refine .e (Or.callNew (fun y:Nat×Array MapEntry×Nat=> .map (some y.1)) (fun y=> [(y.1,true,.map y.2.1 y.2.2)]) (fun y=> MapOk y.2.1 y.2.2 (vF (k.sees code))) rfl rfl rfl rfl rfl (by decide) (fun _=> by simp) (fun H hs=> .f ca90 rfl (CallT.mono (all90_c M H k (Lk.fine hk) code x.1 x.2.1 hc (edg_of fun y hy=> hs.at_ y (by simp[hy]))) (by rintro v H' ⟨h1,m,es,cl,h2,h3,h4,h5⟩;exact⟨h1,(m,es,cl),h2,h5,by simp[h3,h4]⟩))) (fun y hm=> ?_))
 have hl32:(keepI (k.canRead code) 32).length≤32:=keepI_len _ _
 have hl33:(keepTo (k.canRead code) 32).length≤32:=by rw[keepI_eq,intsL_len];exact hl32
 obtain⟨m,es,cl⟩:=y
 simp only at hm
 have hperm:=codes_perm hm
 have hbad:=bad_any hm
 refine .e (Or.range (E:=en) (es:=es) (cl:=cl) rfl rfl (fun H hs=> ⟨true,hs.at_ (m,true,.map es cl) (by simp)⟩) rfl rfl rfl (by decide) (fun it=> ?_))
 refine .done ?_
 refine Tc.lift (L₂:= [(it,true,.mapIter (some m) cl #[] cl)]) rfl (fun Hm hsm=> ?_)
 have hmap:Hm m=some (true,.map es cl):=hsm.at_ (m,true,.map es cl) (by simp)
 have hfr:∀b x,Hm b=none→H b=some x→False:=fun b x h2 h3=> by rw[hsm.base _ _ h3] at h2;cases h2
 refine .block ?_
 refine Tc.db (Tc.loopInv (σ:= { s:Array Nat×Gl 3 1×Bool//(s.2.1.l++(unseen es s.1).filterMap codeE).Perm (keepTo (k.canRead code) 32)∧(s.2.2||(unseen es s.1).any badE)=k.bad code })
   (fun s=> ([(26,.pointer (some ⟨it,0,none⟩)),(4,s.1.2.1.val),(9,.bool s.1.2.2)],[(it,true,.mapIter (some m) cl s.1.1 cl)]++s.1.2.1.bl)) (fun s=> (unseen es s.1.1).length) ?_ ⟨(#[],Gl.nil 3 1,false),by rw[unseen_start];exact hperm,by rw[unseen_start,hbad];rfl⟩)
 rintro⟨⟨seen,g,bd⟩,g1,g2⟩ ih
 simp only at g1 g2
 have hgl:=g1.length_eq
 rw[List.length_append] at hgl
 have hgn:=g.hl
 rw[Nat.mul_one] at hgn
 show Tc M St _ _ _ _ [(26,.pointer (some ⟨it,0,none⟩)),(4,g.val),(9,.bool bd)] ([(it,true,.mapIter (some m) cl seen cl)]++g.bl) _ _
 refine .sr ?_
 refine .e (Or.next (es:=es) 0 rfl rfl rfl (fun H hs=> ⟨true,hs.base _ _ hmap⟩) hm.lt rfl (by decide) (fun e he hse=> ?_) (fun hall=> ?_))
 · have hp:=unseen_next hm.borns he hse
   obtain⟨_,u,u1,u2,u3⟩:=(hm.mem e.key e.val).2 ⟨e,he,rfl,rfl⟩
   have hfind:es.find? (fun x=> x.born==e.born)=some e:=by
     rw[←Array.find?_toList]
     cases hf:es.toList.find? (fun x=> x.born==e.born) with
     | none=> have:=List.find?_eq_none.1 hf e he;simp at this
     | some e'=>
       have h3:=List.mem_of_find?_eq_some hf
       have h4:=List.find?_some hf
       simp only[beq_iff_eq] at h4
       rw[born_unique hm.borns e' h3 e he h4]
   refine .x .et ?_
   refine .done (.seq (.tt rfl (.skip (.block (.sr ?_)))))
   refine .e (Or.entry (es:=es) (e:=e) (st:=e.born) rfl rfl (fun H hs=> ⟨true,hs.get (i:=0) rfl⟩) (fun H hs=> ⟨true,hs.base _ _ hmap⟩) (by simp) hfind rfl (by decide) ?_)
   rw[u2]
   refine .x .et ?_
   refine .g ?_
   refine .done (.seq ?_)
   have hc1:=hp.filterMap codeE
   have hb1:=hp.any_eq (f:=badE)
   have hbE:badE e=(readN u).isNone:=by unfold badE keyN;rw[u2];rfl
   have hcE:codeE e=(readN u).map fun n=> .int .i64 (n:Nat):=by unfold codeE keyN;rw[u2];rfl
   cases hu:readN u with
   | none=>
     rw[hu] at hbE hcE
     refine .r ?_
     refine .m ?_
     refine .c rfl rfl rfl rfl (fun H hs=> .f ca91 rfl (CallT.is (.tuple ⟨[.int .i64 0,.bool false]⟩) (by rewrite [hu];rfl) (read_c M H u u1))) ?_
     refine .m ?_
     refine .x .et ?_
     refine .x .et ?_
     refine .g ?_
     refine .g ?_
     refine .done (.sr ?_)
     refine .m ?_
     refine .done (.ff rfl (.r ?_))
     refine .g ?_
     refine .done (.inBlock ?_)
     exact Tc.db (ih ⟨(seen.push e.born,g,true),by simp only;rw[List.filterMap_cons_none hcE] at hc1;exact(List.Perm.append_left _ hc1.symm).trans g1,by simp only;rw[←g2,hb1,List.any_cons,hbE];simp⟩ (by simp only;rw[hp.length_eq];simp))
   | some n=>
     rw[hu] at hbE hcE
     have hn:=readN_lt hu
     have hroom:g.n+1≤32:=by
       rw[←hgn]
       have h5:=hc1.length_eq
       rw[List.filterMap_cons_some hcE,List.length_cons] at h5
       omega
     refine .r ?_
     refine .m ?_
     refine .c rfl rfl rfl rfl (fun H hs=> .f ca91 rfl (CallT.is (.tuple ⟨[.int .i64 (n:Nat),.bool true]⟩) (by rewrite [hu];rfl) (read_c M H u u1))) ?_
     refine .m ?_
     refine .x .et ?_
     refine .x .et ?_
     refine .g ?_
     refine .g ?_
     refine .done (.sr ?_)
     refine .m ?_
     refine .done (.tt rfl (.r ?_))
     refine .m ?_
     refine .m ?_
     refine .e (.bs (zz:=fun bs=> ?_))
     refine .e (Or.append (E:=en) 2 rfl rfl rfl rfl rfl rfl rfl rfl rfl rfl rfl rfl rfl rfl rfl (fun H hs=> SrcAt.of (hs.get (i:=0) rfl) (Nat.le_of_ble_eq_true rfl)) rfl (by omega) rfl (by decide) (fun g' hn' hl=> ?_))
     refine .g ?_
     refine .done (.inBlock ?_)
     exact Tc.db (ih ⟨(seen.push e.born,g',bd),by simp only;rw[hl,List.append_assoc];rw[List.filterMap_cons_some hcE] at hc1;exact(List.Perm.append_left _ hc1.symm).trans g1,by simp only;rw[←g2,hb1,List.any_cons,hbE];simp⟩ (by simp only;rw[hp.length_eq];simp))
 · have hun:=unseen_done hall
   rw[hun] at g1 g2
   simp only[List.filterMap_nil,List.append_nil,List.any_nil,Bool.or_false] at g1 g2
   rw[keepI_eq] at g1
   obtain⟨u,hgu,hup⟩:=perm_ints g1
   subst g2
   refine .x .et ?_
   refine .done (.seq (.ff rfl (.exit rfl (.sr ?_))))
   refine .m ?_
   refine .e (Or.sortGl (L1:= [(it,true,.mapIter (some m) cl seen cl)]) g u (keepI (k.canRead code) 32) hgu hup (keepI_lt _ _) (by have:=hl32;omega) rfl rfl rfl rfl rfl (by decide) (fun H Q h=> .f ca92 rfl h) (fun g' hv' hn' hl'=> ?_))
   refine .done ?_
   have hgl2:g'.l=keepTo (k.canRead code) 32:=by rw[hl',keepI_eq]
   have hgn2:g'.l.length=g.n:=by rw[g'.hl,hn',Nat.mul_one]
   refine .seq (.block (.seq ?_))
   cases hbd:k.bad code with
   | false=>
     have hr:k.refused code=2:=by unfold Lk.refused;rw[hbd];rfl
     refine .r ?_
     refine .m ?_
     refine .x .nt ?_
     refine .g ?_
     refine .done (.tt rfl (.sr ?_))
     refine .m ?_
     refine .g ?_
     refine .g ?_
     refine .g ?_
     refine .done ?_
     refine .rt hK Tryz.func21 Tryz.results21 [_,_,_] ?_
     exact fun H' hs=> ⟨View.le_trans hsm.base hs.base,g',by rw[hr,hv'];rfl,hgl2,fun y hy=> ⟨hs.at_ y (by simp[hy]),by cases h:H y.1 with|none=> rfl|some x=> exact(hfr _ x (hs.out y (by simp[hy])) h).elim⟩⟩
   | true=>
     refine .r ?_
     refine .m ?_
     refine .x .nt ?_
     refine .g ?_
     refine .done (.ff rfl (.seq ?_))
     by_cases h0:g.n=0
     · have hr:k.refused code=1:=by unfold Lk.refused;rw[hbd,←hgl2,hgn2,h0];rfl
       refine .r ?_
       refine .m ?_
       refine .x .ln ?_
       refine .i ?_ (z:=eql_t (by omega))
       refine .g ?_
       refine .done (.tt rfl (.sr ?_))
       refine .g ?_
       refine .g ?_
       refine .g ?_
       refine .done ?_
       refine .rt hK Tryz.func21 Tryz.results21 [_,_,_] ?_
       exact fun H' hs=> ⟨View.le_trans hsm.base hs.base,Gl.nil 3 1,by rw[hr];rfl,by rw[←hgl2];exact(List.eq_nil_of_length_eq_zero (by omega)).symm,by simp[Gl.nil,Gl.bl]⟩
     · have hr:k.refused code=0:=by unfold Lk.refused;rw[hbd,←hgl2,hgn2,if_pos rfl,if_neg h0]
       refine .r ?_
       refine .m ?_
       refine .x .ln ?_
       refine .i ?_ (z:=eql_f (by omega))
       refine .g ?_
       refine .done (.ff rfl (.skip (.inBlock (.sr ?_))))
       refine .m ?_
       refine .g ?_
       refine .g ?_
       refine .g ?_
       refine .done ?_
       refine .rt hK Tryz.func21 Tryz.results21 [_,_,_] ?_
       exact fun H' hs=> ⟨View.le_trans hsm.base hs.base,g',by rw[hr,hv'];rfl,hgl2,fun y hy=> ⟨hs.at_ y (by simp[hy]),by cases h:H y.1 with|none=> rfl|some x=> exact(hfr _ x (hs.out y (by simp[hy])) h).elim⟩⟩
end
end Go.Proofs.YtpdaenfglbgfkaaGreatDoor
end
section
namespace Go.Proofs.YtpdaenfglbgfkaaGreatDoor
open Go.RL
set_option maxRecDepth 10000
set_option maxHeartbeats 4000000
structure Tells(k:Lk)(c:Nat)(rd:Option Nat):Prop where
 always:k.claim c=1→rd=some c∧keepI (k.canRead c) 32= [(c:Int)]∧k.refused c=2
 never:k.claim c=2→rd≠some c
 refused:k.refused c=1→rd=none
 taken:k.refused c=2→rd≠none
 found:∀n,rd=some n→(n:Int)∈keepI (k.canRead c) 32
 sure:k.sureOf c=true↔k.claim c=1
theorem Lk.refused_in {k:Lk}{c:Nat}:k.refused c=0∨k.refused c=1∨k.refused c=2:=by
 unfold Lk.refused
 split
 · split
   · exact .inr (.inl rfl)
   · exact .inl rfl
 · exact .inr (.inr rfl)
theorem Lk.bad_iff {k:Lk}{c:Nat}:k.bad c=true↔∃v,v<128∧k.sees c v=true∧readN v=none:=by
 unfold Lk.bad
 rw[List.any_eq_true]
 constructor
 · rintro⟨v,h1,h2⟩
   rw[Bool.and_eq_true,Option.isNone_iff_eq_none] at h2
   exact⟨v,List.mem_range.1 h1,h2.1,h2.2⟩
 · rintro⟨v,h1,h2,h3⟩
   exact⟨v,List.mem_range.2 h1,by rw[Bool.and_eq_true,Option.isNone_iff_eq_none];exact⟨h2,h3⟩⟩
theorem readN_see {k:Lk}{c v n:Nat}(hv:v<128)(hs:k.sees c v=true)(h:readN v=some n):n<32∧k.canRead c n=true:=by
 have hn:=readN_lt h
 have:=(readN_iff v hv n hn).1 h
 exact⟨hn,by unfold Lk.canRead;rw[←this];exact hs⟩
theorem keepI_empty {p:Nat→Bool}{n:Nat}:(keepTo p n).length=0↔∀i,i<n→p i=false:=by
 unfold keepTo
 rw[List.length_map,List.length_eq_zero_iff,List.filter_eq_nil_iff]
 constructor
 · intro h i hi
   have:=h i (List.mem_range.2 hi)
   cases hp:p i with
   | false=> rfl
   | true=> exact absurd hp this
 · intro h i hi
   rw[h i (List.mem_range.1 hi)]
   decide
theorem Lk.refused_one {k:Lk}{c:Nat}(h:k.refused c=1):∀n,n<32→k.canRead c n=false:=by
 unfold Lk.refused at h
 split at h
 · split at h
   · rename_i h2
     exact keepI_empty.1 h2
   · cases h
 · cases h
theorem Lk.refused_two {k:Lk}{c:Nat}:k.refused c=2↔k.bad c=false:=by
 unfold Lk.refused
 constructor
 · intro h
   split at h
   · split at h <;> cases h
   · rename_i h2
     cases hb:k.bad c with
     | false=> rfl
     | true=> exact absurd hb h2
 · intro h
   rw[h]
   rfl
theorem keepI_one {p:Nat→Bool}{n c:Nat}(hc:c<n)(hp:p c=true)(h:∀i,i<n→p i=true→i=c):keepI p n= [(c:Int)]:=by
 have h1:((List.range n).filter p).Nodup:=List.Pairwise.filter _ List.nodup_range
 have h2:((List.range n).filter p).Perm [c]:=by
   refine(List.perm_ext_iff_of_nodup h1 (by simp)).2 fun i=> ?_
   rw[List.mem_filter,List.mem_range,List.mem_singleton]
   constructor
   · exact fun⟨h3,h4⟩=> h i h3 h4
   · rintro rfl
     exact⟨hc,hp⟩
 unfold keepI
 rw[List.perm_singleton.1 h2]
 rfl
theorem Lk.tells {k:Lk}(hk:k.ok=true){c:Nat}(hc:c<32){a r n:Int}{mv:List Int}(hP:k.Past c a r n mv):Tells k c (readN (pastView c a r n mv)):=by
 obtain⟨hks,hkr,hkl,hkm⟩:=Lk.ok_in hk
 have hv:=pastView_lt c a r n mv
 have hs:k.sees c (pastView c a r n mv)=true:=(Lk.sees_iff hkr.1 hc).2 ⟨a,r,n,mv,hP,rfl⟩
 have h1:=Lk.claim_one hk hc
 have hone:k.claim c=1→∀w,k.sees c w=true→w=rightN c:=fun h=> (Lk.wrong_sees hkr.1).1 (h1.1 h)
 have hrr:=read_right c hc
 have hrv:=right_val c hc
 refine⟨fun h=> ?_,fun h=> ?_,fun h=> ?_,fun h e=> ?_,fun m hm=> ?_,?_⟩
 · have ho:=hone h
   have e:=ho _ hs
   refine⟨by rw[e];exact hrr,?_,?_⟩
   · refine keepI_one hc ?_ fun i hi hp=> ?_
     · unfold Lk.canRead
       rw[←hrv,←e]
       exact hs
     · unfold Lk.canRead at hp
       have:=ho _ hp
       omega
   · rw[Lk.refused_two]
     cases hb:k.bad c with
     | false=> rfl
     | true=>
       obtain⟨w,_,h3,h4⟩:=Lk.bad_iff.1 hb
       rw[ho w h3,hrr] at h4
       cases h4
 · intro e
   have h3:=read_only hv e
   unfold Lk.claim at h
   rw[←h3,hs,if_pos rfl] at h
   split at h <;> cases h
 · cases hr:readN (pastView c a r n mv) with
   | none=> rfl
   | some m=>
     obtain⟨h3,h4⟩:=readN_see hv hs hr
     rw[Lk.refused_one h m h3] at h4
     cases h4
 · have h3:=Lk.refused_two.1 h
   rw[Lk.bad_iff.2 ⟨_,hv,hs,e⟩] at h3
   cases h3
 · obtain⟨h3,h4⟩:=readN_see hv hs hm
   exact keepI_mem.2 ⟨h3,h4⟩
 · rw[h1]
   unfold Lk.sureOf
   rw[Option.isNone_iff_eq_none]
end Go.Proofs.YtpdaenfglbgfkaaGreatDoor
end
section
namespace Go.Proofs.YtpdaenfglbgfkaaGreatDoor
open Go.RL
set_option maxRecDepth 10000
set_option maxHeartbeats 8000000
section
variable(M:Md Tryz.prog)(H:View)
theorem Ascending_k(A:Option Addr)(p:Nat→Bool)(k n ca:Nat)(hk:k≤1000)(hn:n=(keepI p k).length)(hA:Nums H A (keepI p k)):CallT M 38 #[.slice A n ca,.int .i64 (k:Nat)] H (fun v H'=> H.le H'∧v=.int .i64 0):=by
 have hl:=keepI_len p k
 exact Ascending_good M H _ _ n ca k hn (by omega) (by omega) hA (fun i hi=> keepI_get (by omega)) (fun i h0 hi=> keepI_mono h0 (by omega))
theorem fits_c(t:Int)(b:Bool)(h:(t≠1∨b=true)∧(t≠2∨b=false)):CallT M 75 #[.int .i64 t,.bool b] H (fun v H'=> H.le H'∧v=.bool true):=by
 obtain⟨h1,h2⟩:=h
 refine CallT.enter (vs:= [.int .i64 t,.bool b]) Tryz.func75 rfl Tryz.ntmps75 (Nat.le_of_ble_eq_true rfl) (SymSt.nil _) fun St c cs hK=> ?_
 cases b
 · have h3:t≠1:=h1.resolve_right (by decide)
   by_cases h4:t=2
   · refine .sr ?_
     refine .g ?_
     refine .done (.sr ?_)
     refine .m ?_
     refine .i ?_ (z:=neq_t (by omega))
     refine .m ?_
     refine .sk ?_
     refine .x .pk ?_
     refine .m ?_
     refine .m ?_
     refine .i ?_ (z:=neq_f (by omega))
     refine .m ?_
     refine .m ?_
     refine .x .nt ?_
     refine .x .pk ?_
     refine .x .pk ?_
     refine .g ?_
     refine .done ?_
     refine .rt hK Tryz.func75 Tryz.results75 [_] ?_
     exact fun H' hs=> ⟨hs.base,rfl⟩
   · refine .sr ?_
     refine .g ?_
     refine .done (.sr ?_)
     refine .m ?_
     refine .i ?_ (z:=neq_t (by omega))
     refine .m ?_
     refine .sk ?_
     refine .x .pk ?_
     refine .m ?_
     refine .m ?_
     refine .i ?_ (z:=neq_t (by omega))
     refine .m ?_
     refine .sk ?_
     refine .sk ?_
     refine .x .pk ?_
     refine .x .pk ?_
     refine .g ?_
     refine .done ?_
     refine .rt hK Tryz.func75 Tryz.results75 [_] ?_
     exact fun H' hs=> ⟨hs.base,rfl⟩
 · have h3:t≠2:=h2.resolve_right (by decide)
   by_cases h4:t=1
   · refine .sr ?_
     refine .g ?_
     refine .done (.sr ?_)
     refine .m ?_
     refine .i ?_ (z:=neq_f (by omega))
     refine .m ?_
     refine .m ?_
     refine .x .pk ?_
     refine .m ?_
     refine .m ?_
     refine .i ?_ (z:=neq_t (by omega))
     refine .m ?_
     refine .sk ?_
     refine .sk ?_
     refine .x .pk ?_
     refine .x .pk ?_
     refine .g ?_
     refine .done ?_
     refine .rt hK Tryz.func75 Tryz.results75 [_] ?_
     exact fun H' hs=> ⟨hs.base,rfl⟩
   · refine .sr ?_
     refine .g ?_
     refine .done (.sr ?_)
     refine .m ?_
     refine .i ?_ (z:=neq_t (by omega))
     refine .m ?_
     refine .sk ?_
     refine .x .pk ?_
     refine .m ?_
     refine .m ?_
     refine .i ?_ (z:=neq_t (by omega))
     refine .m ?_
     refine .sk ?_
     refine .sk ?_
     refine .x .pk ?_
     refine .x .pk ?_
     refine .g ?_
     refine .done ?_
     refine .rt hK Tryz.func75 Tryz.results75 [_] ?_
     exact fun H' hs=> ⟨hs.base,rfl⟩
end
theorem Tells.key {k:Lk}{c:Nat}{rd:Option Nat}(h:Tells k c rd){w:Int}{o:Bool}(hw:w=((rd.getD 0:Nat):Int))(ho:o=rd.isSome):
   ((k.refused c≠1∨(!o)=true)∧(k.refused c≠2∨(!o)=false))∧∃rt:Bool,((k.claim c≠1∨rt=true)∧(k.claim c≠2∨rt=false))∧(o=false∧rt=false∨o=true∧w∈keepI (k.canRead c) 32∧(rt=true∧w=(c:Nat)∨rt=false∧w≠(c:Nat))):=by
 cases hr:rd with
 | none=>
   rw[hr] at ho hw
   simp only[Option.isSome_none] at ho
   subst ho
   refine⟨⟨.inr rfl,.inl fun e=> h.taken e hr⟩,false,⟨.inl fun e=> ?_,.inr rfl⟩,.inl ⟨rfl,rfl⟩⟩
   have:=(h.always e).1
   rw[hr] at this
   cases this
 | some n=>
   rw[hr] at ho hw
   simp only[Option.isSome_some,Option.getD_some] at ho hw
   subst ho
   refine⟨⟨.inl fun e=> ?_,.inr rfl⟩,decide (n=c),⟨?_,?_⟩,.inr ⟨rfl,by rw[hw];exact h.found n hr,?_⟩⟩
   · have:=h.refused e
     rw[hr] at this
     cases this
   · by_cases e:n=c
     · exact .inr (decide_eq_true e)
     · refine .inl fun e2=> e ?_
       have:=(h.always e2).1
       rw[hr] at this
       exact Option.some.inj this
   · by_cases e:n=c
     · refine .inl fun e2=> h.never e2 ?_
       rw[hr,e]
     · exact .inr (decide_eq_false e)
   · by_cases e:n=c
     · exact .inl ⟨decide_eq_true e,by omega⟩
     · exact .inr ⟨decide_eq_false e,by omega⟩
theorem Real_w {St:View→Goroutine→Prop}{cs:List Frame}(H:View)(hG:Glob H)(k:Lk)(p:Int)(hp:0≤p∧p<256)(A:Option Addr)(l:List Int)(n ca:Nat)(hn:n=l.length)(hA:Picks H A l)
   (hR:∀(H₀:View) (R:Rg) (L:Bl) (kk:List Item),lk R 6=some (.bool true)→H.le H₀→Tc (Mp Tryz.prog) St 129 ⟨14,.normal,none⟩ H₀ cs R L [] (.code .ret::kk)):
   Tc (Mp Tryz.prog) St 129 ⟨14,.normal,none⟩ H cs (argR [k.val,.int .u8 p,.slice A n ca]) [] [] [.code (bodyOf Tryz.f14)]:=by
 cases hk:k.ok with
 | false=>
   refine .sr ?_
   refine .e (.bx (zz:=fun b3=> ?_))
   refine .g ?_
   refine .done (.seq (.sr ?_))
   refine .x (.ld 0) ?_
   refine .c rfl rfl rfl rfl (fun H hs=> .f ca36 rfl (CallT.is (.bool false) (by rewrite [hk];rfl) (Fit_c _ H k))) ?_
   refine .x .nt ?_
   refine .done (.tt rfl (.sr ?_))
   refine .c rfl rfl rfl rfl (fun H hs=> .f ca31 rfl (signalled_c H (glob_le hG hs.base))) ?_
   refine .g ?_
   refine .done ?_
   exact hR _ _ _ _ rfl (View.le_refl _)
 | true=>
   obtain⟨code,hcode⟩:∃c:Nat,p%32=(c:Int):=⟨(p%32).toNat,by omega⟩
   have hc:code<32:=by omega
   have hw1:IntKind.i64.wrap p=p:=wrap64 (by omega) (by omega)
   have hr1:intBin .rem .i64 p 32=some (.int .i64 (code:Nat)):=by rw[rem_in (by omega) (by omega),hcode]
   have hP:=Lk.past_of hk code l
   have hT:=Lk.tells hk hc hP
   obtain⟨w,o,hw,ho,hrd⟩:∃(w:Int) (o:Bool),w=(((readN (pastView code (k.pSend l) (k.pRead l) (k.pLean l) (k.pMoves l (placesTo code 7).length))).getD 0:Nat):Int)∧o=(readN (pastView code (k.pSend l) (k.pRead l) (k.pLean l) (k.pMoves l (placesTo code 7).length))).isSome∧readV (readN (pastView code (k.pSend l) (k.pRead l) (k.pLean l) (k.pMoves l (placesTo code 7).length)))=.tuple ⟨[.int .i64 w,.bool o,.int .i64 0]⟩:=⟨_,_,rfl,rfl,readV_eq _⟩
   obtain⟨kf1,rt,kf2,kO⟩:=hT.key hw ho
   have hAl:=hT.always
   have hSu:=hT.sure
   clear hT hw ho
   obtain⟨F,hF⟩:∃F,k.refused code=F:=⟨_,rfl⟩
   obtain⟨T,hTT⟩:∃T,k.claim code=T:=⟨_,rfl⟩
   rw[hF] at kf1 hAl
   rw[hTT] at kf2 hAl hSu
   refine .sr ?_
   refine .e (.bx (zz:=fun b3=> ?_))
   refine .g ?_
   refine .done (.seq (.sr ?_))
   refine .x (.ld 0) ?_
   refine .c rfl rfl rfl rfl (fun H hs=> .f ca36 rfl (CallT.is (.bool true) (by rewrite [hk];rfl) (Fit_c _ H k))) ?_
   refine .x .nt ?_
   refine .done (.ff rfl (.skip (.sr ?_)))
   refine .m ?_
   refine .x .cv ?_
   refine .i ?_ (z:=by assumption)
   refine .g ?_
   refine .done (.seq ?_)
   refine Tc.dr [] [] mixed rfl ?_
   refine .q 0 rfl (.ld 0) ?_
   refine .q 1 rfl .mv ?_
   refine .q 2 rfl (.ld 0) ?_
   refine .q 3 rfl .mv ?_
   refine .q 4 rfl .mv ?_
   refine Ta.each [5] (by kernel_rfl) rfl ⟨TaOp.mk rfl rfl rfl (Or.callNew (fun g:Gl 3 1=> pastV (k.pSend l) (k.pRead l) (k.pLean l) g) Gl.bl (fun g:Gl 3 1=> g.l=intsL (k.pMoves l (placesTo code 7).length)) rfl rfl rfl rfl rfl (by decide) gl_nodup (fun H hs=> .f ca73 rfl (Past_c _ H k hk code hc A l n ca hn (hA.le hs.base))) (fun g hg=> ⟨S2.mk (by exact List.sublist_append_left _ _) (.inr (by exact List.sublist_append_left _ _)),?_⟩)),trivial⟩
   refine Ta.each [6] (by kernel_rfl) rfl ⟨TaOp.mk rfl rfl rfl (Or.ofT (OpV.takeCall rfl rfl rfl rfl (fun H hs=> .f ca74 rfl (CallT.is (.tuple ⟨[.int .i64 w,.bool o,.int .i64 0]⟩) (by rewrite [hrd];rfl) (Read_good _ H k (glob_le hG hs.base) hk code hc _ _ _ _ hP _ g.n g.cap (by rw[←hP.len];exact(Nums.of hg (fun y hy=> hs.at_ y (by simp[hy]))).1) (Nums.of hg (fun y hy=> hs.at_ y (by simp[hy]))).2)))) rfl (by decide) ⟨S2.mk (by exact List.sublist_append_left _ _) (.inr (by exact List.sublist_append_left _ _)),?_⟩),trivial⟩
   refine .q 7 rfl .mv ?_
   refine .q 8 rfl .et ?_
   refine .q 9 rfl .et ?_
   refine .q 10 rfl .et ?_
   refine .q 11 rfl .sg ?_
   refine .q 12 rfl .sg ?_
   refine .q 13 rfl .sg ?_
   refine Ta.done (by kernel_rfl) ?_
   refine Tc.db (R':= [(3,.pointer (some ⟨b3,0,none⟩)),(7,.int .i64 (code:Nat)),(8,.int .i64 w),(9,.bool o),(10,.int .i64 0)]) (L':= [(b3,true,.cells ⟨k.val.cells.toList⟩ 27 (0,0))]) ?_
   clear hrd g hg
   refine .sr ?_
   refine .x (.ld 0) ?_
   refine .m ?_
   refine .e (Or.callNew (fun g:Gl 3 1=> .tuple ⟨[g.val,.int .i64 (k.refused code),.int .i64 0]⟩) Gl.bl (fun g:Gl 3 1=> g.l=keepTo (k.canRead code) 32) rfl rfl rfl rfl rfl (by decide) gl_nodup (fun H hs=> .f ca21 rfl (Reads_c _ H k code (glob_le hG hs.base) hk hc)) (fun g hg=> ?_))
   refine .m ?_
   refine .x .et ?_
   refine .x .et ?_
   refine .x .et ?_
   refine .g ?_
   refine .g ?_
   refine .g ?_
   refine .done ?_
   refine Tc.lift (L₂:= [(b3,true,.cells ⟨k.val.cells.toList⟩ 27 (0,0))]) (L₁:=g.bl) rfl (fun Hx hx=> ?_)
   have hGx:=glob_le hG hx.base
   have hle:=hx.base
   obtain⟨n1,N1⟩:=Nums.of (H:=Hx) (hg.trans (keepI_eq _ _)) (fun y hy=> hx.at_ y hy)
   clear hx
   rw[hF]
   refine .sr ?_
   refine .x (.ld 0) ?_
   refine .m ?_
   refine .c rfl rfl rfl rfl (fun H hs=> .f ca24 rfl (CallT.is (.tuple ⟨[.int .i64 T,.int .i64 0]⟩) (by rewrite [hTT];rfl) (Right_c _ H k code (glob_le hGx hs.base) hk hc))) ?_
   refine .m ?_
   refine .x .et ?_
   refine .x .et ?_
   refine .g ?_
   refine .g ?_
   refine .done (.sr ?_)
   refine .x (.ld 0) ?_
   refine .e (Or.callNew (fun g:Gl 3 1=> .tuple ⟨[g.val,.int .i64 0]⟩) Gl.bl (fun g:Gl 3 1=> g.l=keepTo k.sureOf 32) rfl rfl rfl rfl rfl (by decide) gl_nodup (fun H hs=> .f ca26 rfl (Sure_c _ H k (glob_le hGx hs.base) hk)) (fun g2 hg2=> ?_))
   refine .m ?_
   refine .x .et ?_
   refine .x .et ?_
   refine .g ?_
   refine .g ?_
   refine .done ?_
   refine Tc.lift (L₂:= [(b3,true,.cells ⟨k.val.cells.toList⟩ 27 (0,0))]) (L₁:=g2.bl) rfl (fun Hy hy=> ?_)
   have hGy:=glob_le hGx hy.base
   have hle2:=View.le_trans hle hy.base
   have N1y:=N1.le hy.base
   obtain⟨n2,N2⟩:=Nums.of (H:=Hy) (hg2.trans (keepI_eq _ _)) (fun y hy'=> hy.at_ y hy')
   clear hy
   have hl1:=keepI_len (k.canRead code) 32
   have hl2:=keepI_len k.sureOf 32
   refine Tc.db (R':= [(7,.int .i64 (code:Nat)),(8,.int .i64 w),(9,.bool o),(10,.int .i64 0),(11,g.val),(12,.int .i64 F),(13,.int .i64 0),(14,.int .i64 T),(15,.int .i64 0),(16,g2.val),(17,.int .i64 0)]) (L':= []) ?_
   refine .seq (.sr ?_)
   refine .m ?_
   refine .i ?_ (z:=neq_f (by omega))
   refine .m ?_
   refine .m ?_
   refine .i ?_ (z:=neq_f (by omega))
   refine .x .pk ?_
   refine .m ?_
   refine .m ?_
   refine .i ?_ (z:=neq_f (by omega))
   refine .x .pk ?_
   refine .m ?_
   refine .m ?_
   refine .i ?_ (z:=neq_f (by omega))
   refine .x .pk ?_
   refine .m ?_
   refine .m ?_
   refine .c rfl rfl rfl rfl (fun H hs=> .f ca38 rfl (Ascending_k _ H _ (k.canRead code) 32 g.n g.cap (by decide) n1 (N1y.le hs.base))) ?_
   refine .i ?_ (z:=neq_f (by omega))
   refine .x .pk ?_
   refine .done (.ff rfl (.skip (.seq ?_)))
   refine Tc.db (R':= [(7,.int .i64 (code:Nat)),(8,.int .i64 w),(9,.bool o),(11,g.val),(12,.int .i64 F),(14,.int .i64 T),(16,g2.val)]) (L':= []) ?_
   have hN2:∀(t:Bool),(T=1↔t=true)→∀H',Hy.le H'→CallT (Mp Tryz.prog) 39 #[g2.val,.int .i64 (code:Nat)] H' (fun v H''=> H'.le H''∧v=.bool t):=fun t ht H' h=>
     CallT.mono (HasNum_c _ H' _ (keepI k.sureOf 32) g2.n g2.cap (code:Nat) n2 (by omega) (N2.le h)) (by
       rintro v H'' ⟨h1,h2⟩
       have:decide (((code:Nat):Int)∈keepI k.sureOf 32)=t:=by
         rw[Bool.eq_iff_iff,decide_eq_true_iff,←ht,←hSu]
         exact keepI_mem.trans ⟨fun h=> h.2,fun h=> ⟨hc,h⟩⟩
       rw[this] at h2
       exact⟨h1,h2⟩)
   by_cases hT1:T=1
   · obtain⟨_,hx1,hF2⟩:=hAl hT1
     have hrt:rt=true:=kf2.1.resolve_left fun h=> h hT1
     rw[hx1] at N1y n1
     have hN:=hN2 true ⟨fun _=> rfl,fun _=> hT1⟩
     subst hT1
     have n1':g.n=1:=n1
     rcases kO with ⟨_,h⟩|⟨rfl,hmem,⟨_,hwc⟩|⟨h,_⟩⟩
     · rw[hrt] at h;cases h
     · subst hrt
       subst hwc
       subst hF2
       rcases N1y with hN1|⟨a1,a2,a3,a4,a5,a6,ha,a7,a8⟩
       · cases hN1
       have f1:ldL false 1 a4 (a2+(0:Int).toNat*1)=some (.int .i64 (code:Nat)):=a8 0 (by simp)
       have hgv:g.val=.slice (some ⟨a1,a2,none⟩) 1 g.cap:=by unfold Gl.val;rw[ha,n1']
       rw[hgv]
       refine .r ?_
       refine .m ?_
       refine .m ?_
       refine .m ?_
       refine .m ?_
       refine .i ?_ (z:=eql_t (by omega))
       refine .x .pk ?_
       refine .g ?_
       refine .done (.sr ?_)
       refine .m ?_
       refine .m ?_
       refine .x .nt ?_
       refine .c rfl rfl rfl rfl (fun H hs=> .f ca75 rfl (fits_c _ H 2 false kf1)) ?_
       refine .m ?_
       refine .m ?_
       refine .x .nt ?_
       refine .m ?_
       refine .m ?_
       refine .m ?_
       refine .c rfl rfl rfl rfl (fun H hs=> .f ca39 rfl (CallT.is (.bool true) (by rewrite [decide_eq_true (List.mem_singleton.2 rfl)];rfl) (HasNum_c _ H _ [((code:Nat):Int)] 1 g.cap (code:Nat) rfl (by decide) (.inr ⟨a1,a2,a3,a4,a5,a6,rfl,hs.base _ _ a7,a8⟩)))) ?_
       refine .x .pk ?_
       refine .x .pk ?_
       refine .m ?_
       refine .m ?_
       refine .m ?_
       refine .c rfl rfl rfl rfl (fun H hs=> .f ca75 rfl (fits_c _ H 1 true kf2)) ?_
       refine .x .pk ?_
       refine .m ?_
       refine .m ?_
       refine .m ?_
       refine .c rfl rfl rfl rfl (fun H hs=> .f ca39 rfl (hN H hs.base)) ?_
       refine .m ?_
       refine .i ?_ (z:=eql_t (by omega))
       refine .x .eb ?_
       refine .x .pk ?_
       refine .m ?_
       refine .m ?_
       refine .i ?_ (z:=neq_f (by omega))
       refine .m ?_
       refine .m ?_
       refine .x .ln ?_
       refine .i ?_ (z:=eql_t (by omega))
       refine .m ?_
       refine .m ?_
       refine .x .ia ?_
       refine .x .l0 ?_
       refine .m ?_
       refine .i ?_ (z:=eql_t (by omega))
       refine .x .pk ?_
       refine .m ?_
       refine .m ?_
       refine .i ?_ (z:=eql_t (by omega))
       refine .x .pk ?_
       refine .x .pk ?_
       refine .x .pk ?_
       refine .m ?_
       refine .c rfl rfl rfl rfl (fun H hs=> .f ca31 rfl (signalled_c H (glob_le hGy hs.base))) ?_
       refine .x .pk ?_
       refine .g ?_
       refine .done ?_
       exact hR _ _ _ _ rfl hle2
     · rw[hrt] at h;cases h
   · have hN:=hN2 false ⟨fun h=> absurd h hT1,fun h=> by cases h⟩
     rcases kO with ⟨rfl,rfl⟩|⟨rfl,hmem,⟨rfl,hwc⟩|⟨rfl,hwc⟩⟩
     · refine .r ?_
       refine .m ?_
       refine .m ?_
       refine .sk ?_
       refine .sk ?_
       refine .sk ?_
       refine .x .pk ?_
       refine .g ?_
       refine .done (.sr ?_)
       refine .m ?_
       refine .m ?_
       refine .x .nt ?_
       refine .c rfl rfl rfl rfl (fun H hs=> .f ca75 rfl (fits_c _ H F true kf1)) ?_
       refine .m ?_
       refine .m ?_
       refine .x .nt ?_
       refine .m ?_
       refine .sk ?_
       refine .sk ?_
       refine .sk ?_
       refine .x .pk ?_
       refine .x .pk ?_
       refine .m ?_
       refine .m ?_
       refine .m ?_
       refine .c rfl rfl rfl rfl (fun H hs=> .f ca75 rfl (fits_c _ H T false kf2)) ?_
       refine .x .pk ?_
       refine .m ?_
       refine .m ?_
       refine .m ?_
       refine .c rfl rfl rfl rfl (fun H hs=> .f ca39 rfl (hN H hs.base)) ?_
       refine .m ?_
       refine .i ?_ (z:=eql_f (by omega))
       refine .x .eb ?_
       refine .x .pk ?_
       refine .m ?_
       refine .m ?_
       refine .i ?_ (z:=neq_t (by omega))
       refine .m ?_
       refine .sk ?_
       refine .sk ?_
       refine .sk ?_
       refine .sk ?_
       refine To.skippedU rfl (by decide) rfl ?_
       refine To.skippedU rfl (by decide) rfl ?_
       refine To.skippedU rfl (by decide) rfl ?_
       refine To.skippedU rfl (by decide) rfl ?_
       refine To.skippedU rfl (by decide) rfl ?_
       refine .sk ?_
       refine .sk ?_
       refine To.skippedU rfl (by decide) rfl ?_
       refine To.skippedU rfl (by decide) rfl ?_
       refine .sk ?_
       refine .x .pk ?_
       refine .x .pk ?_
       refine .m ?_
       refine .c rfl rfl rfl rfl (fun H hs=> .f ca31 rfl (signalled_c H (glob_le hGy hs.base))) ?_
       refine .x .pk ?_
       refine .g ?_
       refine .done ?_
       exact hR _ _ _ _ rfl hle2
     · have hN1:∀H',Hy.le H'→CallT (Mp Tryz.prog) 39 #[g.val,.int .i64 w] H' (fun v H''=> H'.le H''∧v=.bool true):=fun H' h=>
         CallT.mono (HasNum_c _ H' _ (keepI (k.canRead code) 32) g.n g.cap w n1 (by omega) (N1y.le h)) (by rintro v H'' ⟨h1,h2⟩;rw[decide_eq_true hmem] at h2;exact⟨h1,h2⟩)
       refine .r ?_
       refine .m ?_
       refine .m ?_
       refine .m ?_
       refine .m ?_
       refine .i ?_ (z:=eql_t (by omega))
       refine .x .pk ?_
       refine .g ?_
       refine .done (.sr ?_)
       refine .m ?_
       refine .m ?_
       refine .x .nt ?_
       refine .c rfl rfl rfl rfl (fun H hs=> .f ca75 rfl (fits_c _ H F false kf1)) ?_
       refine .m ?_
       refine .m ?_
       refine .x .nt ?_
       refine .m ?_
       refine .m ?_
       refine .m ?_
       refine .c rfl rfl rfl rfl (fun H hs=> .f ca39 rfl (hN1 H hs.base)) ?_
       refine .x .pk ?_
       refine .x .pk ?_
       refine .m ?_
       refine .m ?_
       refine .m ?_
       refine .c rfl rfl rfl rfl (fun H hs=> .f ca75 rfl (fits_c _ H T true kf2)) ?_
       refine .x .pk ?_
       refine .m ?_
       refine .m ?_
       refine .m ?_
       refine .c rfl rfl rfl rfl (fun H hs=> .f ca39 rfl (hN H hs.base)) ?_
       refine .m ?_
       refine .i ?_ (z:=eql_f (by omega))
       refine .x .eb ?_
       refine .x .pk ?_
       refine .m ?_
       refine .m ?_
       refine .i ?_ (z:=neq_t (by omega))
       refine .m ?_
       refine .sk ?_
       refine .sk ?_
       refine .sk ?_
       refine .sk ?_
       refine To.skippedU rfl (by decide) rfl ?_
       refine To.skippedU rfl (by decide) rfl ?_
       refine To.skippedU rfl (by decide) rfl ?_
       refine To.skippedU rfl (by decide) rfl ?_
       refine To.skippedU rfl (by decide) rfl ?_
       refine .sk ?_
       refine .sk ?_
       refine To.skippedU rfl (by decide) rfl ?_
       refine To.skippedU rfl (by decide) rfl ?_
       refine .sk ?_
       refine .x .pk ?_
       refine .x .pk ?_
       refine .m ?_
       refine .c rfl rfl rfl rfl (fun H hs=> .f ca31 rfl (signalled_c H (glob_le hGy hs.base))) ?_
       refine .x .pk ?_
       refine .g ?_
       refine .done ?_
       exact hR _ _ _ _ rfl hle2
     · have hN1:∀H',Hy.le H'→CallT (Mp Tryz.prog) 39 #[g.val,.int .i64 w] H' (fun v H''=> H'.le H''∧v=.bool true):=fun H' h=>
         CallT.mono (HasNum_c _ H' _ (keepI (k.canRead code) 32) g.n g.cap w n1 (by omega) (N1y.le h)) (by rintro v H'' ⟨h1,h2⟩;rw[decide_eq_true hmem] at h2;exact⟨h1,h2⟩)
       refine .r ?_
       refine .m ?_
       refine .m ?_
       refine .m ?_
       refine .m ?_
       refine .i ?_ (z:=eql_f (by omega))
       refine .x .pk ?_
       refine .g ?_
       refine .done (.sr ?_)
       refine .m ?_
       refine .m ?_
       refine .x .nt ?_
       refine .c rfl rfl rfl rfl (fun H hs=> .f ca75 rfl (fits_c _ H F false kf1)) ?_
       refine .m ?_
       refine .m ?_
       refine .x .nt ?_
       refine .m ?_
       refine .m ?_
       refine .m ?_
       refine .c rfl rfl rfl rfl (fun H hs=> .f ca39 rfl (hN1 H hs.base)) ?_
       refine .x .pk ?_
       refine .x .pk ?_
       refine .m ?_
       refine .m ?_
       refine .m ?_
       refine .c rfl rfl rfl rfl (fun H hs=> .f ca75 rfl (fits_c _ H T false kf2)) ?_
       refine .x .pk ?_
       refine .m ?_
       refine .m ?_
       refine .m ?_
       refine .c rfl rfl rfl rfl (fun H hs=> .f ca39 rfl (hN H hs.base)) ?_
       refine .m ?_
       refine .i ?_ (z:=eql_f (by omega))
       refine .x .eb ?_
       refine .x .pk ?_
       refine .m ?_
       refine .m ?_
       refine .i ?_ (z:=neq_t (by omega))
       refine .m ?_
       refine .sk ?_
       refine .sk ?_
       refine .sk ?_
       refine .sk ?_
       refine To.skippedU rfl (by decide) rfl ?_
       refine To.skippedU rfl (by decide) rfl ?_
       refine To.skippedU rfl (by decide) rfl ?_
       refine To.skippedU rfl (by decide) rfl ?_
       refine To.skippedU rfl (by decide) rfl ?_
       refine .sk ?_
       refine .sk ?_
       refine To.skippedU rfl (by decide) rfl ?_
       refine To.skippedU rfl (by decide) rfl ?_
       refine .sk ?_
       refine .x .pk ?_
       refine .x .pk ?_
       refine .m ?_
       refine .c rfl rfl rfl rfl (fun H hs=> .f ca31 rfl (signalled_c H (glob_le hGy hs.base))) ?_
       refine .x .pk ?_
       refine .g ?_
       refine .done ?_
       exact hR _ _ _ _ rfl hle2
end Go.Proofs.YtpdaenfglbgfkaaGreatDoor
end
