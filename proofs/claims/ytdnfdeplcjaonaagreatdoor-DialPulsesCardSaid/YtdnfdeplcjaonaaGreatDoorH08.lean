/-
  Texts of the proofs over baudot/dial: Y4 Y5 Y6 DrawL VLess W1 W2 H1 X3 KD Draw6 X4 Z7 ZB ZD App3 ZF Z6 ZG ZC ZJ Bytes P1 Grow Abs P2 P3 NA OB NB OC NC ND App4.
-/
import Derived.Test.YtdnfdeplcjaonaaGreatDoorH07
namespace Go.Proofs.YtdnfdeplcjaonaaGreatDoor
open Go.RL Go.Proofs.Tryz Go.Conc Go.ConcN Go.RL.Au
open Go.ConcR (stA smA)
open Go.ConcM (OsLater)
set_option maxRecDepth 10000
set_option maxHeartbeats 1000000
section
variable {X:Fk}{κ:Nat}{H:View}{cc:Frame}{cs:List Frame}
theorem shp_wg(X:Fk):∃e c,X.shp X.Wg=some (e,c)∧0<c:=⟨X.tW,2,by simp[Fk.shp],by decide⟩
theorem shp_wg1(X:Fk):∃e c,X.shp X.Wg=some (e,c)∧0+1<c:=⟨X.tW,2,by simp[Fk.shp],by decide⟩
theorem kw {K:Value→Th→Prop}{k:Nat}:KC false (fun v J'=> ∃k' t',k'<k∧K v t'∧J'=Jw prog X κ k' t' H):=fun _ _ ⟨_,_,_,_,h⟩=> ⟨_,h▸Jw.cl0⟩
noncomputable def X103:Code:=cR (cR (cR (cR (bodyOf Tryz.f103))))
abbrev b103:FB:=⟨103,.normal,none⟩
attribute [local irreducible] IntKind.wrap bitI Int.fdiv in
theorem dn_two {a b:Nat}(ha:a<8)(hb:b<2)(hq:¬(a=0∧b=1))(hK:Jq prog 0 (G (cc.finish (.tuple #[])) cs)){R:Rg}
   (hR:AllIn [(0,.pointer (some ⟨X.Wg,0,none⟩)),(1,.int .i64 (-1)),(4,.bool false),(6,.int .u64 ((a*4294967296+b:Nat):Int))] R):
   Sc (Jq prog 1) 117 b103 (cc::cs) R [dcall 165 #[]] [.code X103]:=by
 refine Sc.drop hR ?_;have hsh:=shp_wg X;have f3:=w32_m1;have g1:intBin .and .u64 ((a*4294967296+b:Nat):Int) 2147483648=some (.int .u64 0):=by rw[←g64_hi a (by omega) b (by omega)];rfl
 have g2:intBin .and .u64 ((a*4294967296+b:Nat):Int) 2147483647=some (.int .u64 (b:Int)):=by rw[←g64_lo a (by omega) b (by omega)];rfl
 have g3:shiftV .shr .u64 ((a*4294967296+b:Nat):Int) 32=some (.int .u64 (a:Int)):=by rw[←g64_sh a (by omega) b (by omega)];rfl
 have g4:=w32_s a (by omega);have g5:=wu32_s b (by omega);rcases Nat.eq_zero_or_pos a with hpos|hpos;all_goals rcases Nat.eq_zero_or_pos b with hposb|hposb
 all_goals first
   | (exfalso;omega)
   | (
     refine .sq (.sq (.rg rfl rfl ?_));refine .m ?_;refine .i ?_ (z:=by assumption);refine .i ?_ (z:=neq_f (by omega));refine .m ?_;refine .sk ?_;refine .sk ?_;refine .x .pk ?_;refine .dn (.ff rfl (.sp (.sq ?_)));refine Sc.drop (R':= [(0,.pointer (some ⟨X.Wg,0,none⟩)),(1,.int .i64 (-1)),(4,.bool false),(6,.int .u64 ((a*4294967296+b:Nat):Int))]) ⟨rfl,rfl,rfl,rfl,trivial⟩ ?_;refine .rg rfl rfl ?_;refine .m ?_;refine .x (OpP.shift rfl rfl rfl (by omega) (by assumption)) ?_;refine .x (OpP.conv rfl rfl un_151 un_21 (by assumption)) ?_;refine .g ?_;refine .dn (.sq ?_);refine Sc.drop (R':= [(0,.pointer (some ⟨X.Wg,0,none⟩)),(1,.int .i64 (-1)),(6,.int .u64 ((a*4294967296+b:Nat):Int)),(7,.int .i32 (a:Int))]) ⟨rfl,rfl,rfl,rfl,trivial⟩ ?_;refine .rg rfl rfl ?_;refine .m ?_;refine .i ?_ (z:=by assumption);refine .x (OpP.conv rfl rfl un_151 un_154 (by assumption)) ?_;refine .g ?_;refine .dn (.sq (.sq ?_));refine Sc.drop (R':= [(0,.pointer (some ⟨X.Wg,0,none⟩)),(1,.int .i64 (-1)),(7,.int .i32 (a:Int)),(8,.int .u32 (b:Int))]) ⟨rfl,rfl,rfl,rfl,trivial⟩ ?_;refine .rg rfl rfl ?_;refine .m ?_;refine .m ?_;refine .i ?_ (z:=gtr_f (by omega));refine .x .pk ?_;refine .m ?_;refine .sk ?_;refine .sk ?_;refine .sk ?_;refine .sk ?_;refine .x .pk ?_;refine .dn (.ff rfl (.sp (.sq (.sq ?_))));refine Sc.drop (R':= [(0,.pointer (some ⟨X.Wg,0,none⟩)),(1,.int .i64 (-1)),(7,.int .i32 (a:Int)),(8,.int .u32 (b:Int))]) ⟨rfl,rfl,rfl,rfl,trivial⟩ ?_;refine .rg rfl rfl ?_;refine .m ?_;refine .i ?_ (z:=lss_f (by omega));refine .dn (.ff rfl (.sp (.sq (.sq ?_))));refine Sc.drop (R':= [(0,.pointer (some ⟨X.Wg,0,none⟩)),(1,.int .i64 (-1)),(7,.int .i32 (a:Int)),(8,.int .u32 (b:Int))]) ⟨rfl,rfl,rfl,rfl,trivial⟩ ?_;refine .rg rfl rfl ?_;refine .m ?_;refine .i ?_ (z:=by first|exact neq_t (by omega)|exact neq_f (by omega));refine .m ?_;first|(refine .sk ?_)|(refine .m ?_)
     first|(refine .sk ?_)|(refine .x (.it (zz:=gtr_f (by omega))) ?_)
     refine .x .pk ?_;refine .m ?_;refine .sk ?_;refine .sk ?_;refine .sk ?_;refine .sk ?_;refine .x .pk ?_;refine .dn (.ff rfl (.sp (.sq (.sq ?_))));refine Sc.drop (R':= [(0,.pointer (some ⟨X.Wg,0,none⟩)),(1,.int .i64 (-1)),(7,.int .i32 (a:Int)),(8,.int .u32 (b:Int))]) ⟨rfl,rfl,rfl,rfl,trivial⟩ ?_;refine .rg rfl rfl ?_;refine .m ?_;refine .i ?_ (z:=by first|exact gtr_t (by omega)|exact gtr_f (by omega));refine .m ?_;first|(refine .sk ?_)|(refine .m ?_)
     first|(refine .sk ?_)|(refine .x (.it (zz:=eql_t (by omega))) ?_)
     refine .x .pk ?_;refine .dn (.tt rfl ?_);refine Sc.retCode Jq.cl rfl (Jq.en e165 rfl (Sb.leave Jq.cl func103 rfl (.inl ⟨results103,rfl⟩) hK)))
noncomputable def Y103:Code:=cR (cR (cR (cR (cR (cR (cR X103))))))
attribute [local irreducible] IntKind.wrap bitI Int.fdiv in
theorem dn_last {a b k:Nat}(a0:a=0)(b1:b=1)(hK:Jq prog 0 (G (cc.finish (.tuple #[])) cs)){R:Rg}
   (hR:AllIn [(0,.pointer (some ⟨X.Wg,0,none⟩)),(4,.bool false),(6,.int .u64 ((a*4294967296+b:Nat):Int)),(8,.int .u32 (b:Int))] R):Sc (Jw prog X κ k .d2 H) 117 b103 (cc::cs) R [dcall 165 #[]] [.code Y103]:=by
 refine Sc.drop hR ?_;have hsh:=shp_wg X;have g6:intBin .sub .u32 (b:Int) 1=some (.int .u32 0):=by
   rw[b1];exact congrArg (fun x=> some (Value.int .u32 x)) (show IntKind.u32.wrap (((1:Nat):Int)-1)=0 by decide +kernel)
 have g7:intBin .neq .u64 1 ((a*4294967296+b:Nat):Int)=some (.bool false):=neq_f (by omega);refine .sq (.sq (.rg rfl rfl ?_));refine .m ?_;refine .x .nk ?_;refine .x (.fa (zz:=fo_156_1)) ?_;refine So.callD rfl rfl rfl nofun rfl (.mk' rfl) rfl (load64 Jw.cl0 kw (Jw.d2 e211)) ?_;rintro v J' ⟨k5,t,hk5,⟨rfl,rfl⟩,rfl⟩;refine .m ?_;refine .i ?_ (z:=by assumption);refine .dn (.ff rfl (.sp (.sq ?_)));refine Sc.drop (R':= [(0,.pointer (some ⟨X.Wg,0,none⟩)),(4,.bool false),(6,.int .u64 ((a*4294967296+b:Nat):Int)),(8,.int .u32 (b:Int))]) ⟨rfl,rfl,rfl,rfl,trivial⟩ ?_;refine .rg rfl rfl ?_;refine .m ?_;refine .x .nk ?_;refine .x (.fa (zz:=fo_156_1)) ?_;refine So.callD rfl rfl rfl nofun rfl (.mk' rfl) rfl (store64 Jw.cl0 kw (fun v J' ⟨_,_,_,h,_⟩=> h.1) (Jw.d3 e212)) ?_;rintro v J' ⟨k6,t,hk6,⟨rfl,rfl⟩,rfl⟩;refine .dn (.sq (.sq ?_));refine Sc.drop (R':= [(0,.pointer (some ⟨X.Wg,0,none⟩)),(4,.bool false),(6,.int .u64 ((a*4294967296+b:Nat):Int)),(8,.int .u32 (b:Int))]) ⟨rfl,rfl,rfl,rfl,trivial⟩ ?_;refine .rg rfl rfl ?_;refine .m ?_;refine .dn (.ff rfl (.sp (.bl ?_)));refine Sc.loop (by exact Jw.cl0) ?_;refine .sq (.sq (.rg rfl rfl ?_));refine .m ?_;refine .i ?_ (z:=neq_t (by omega));refine .dn (.tt rfl (.sp (.sq (.bl ?_))));refine Sc.drop (R':= [(0,.pointer (some ⟨X.Wg,0,none⟩)),(4,.bool false),(6,.int .u64 ((a*4294967296+b:Nat):Int)),(8,.int .u32 (b:Int))]) ⟨rfl,rfl,rfl,rfl,trivial⟩ ?_;refine .rg rfl rfl ?_;refine .m ?_;refine .x .nk ?_;refine .x (.fa (zz:=fo_156_2)) ?_;refine So.callD rfl rfl rfl nofun rfl (.mk' rfl) rfl (Jw.d4 (vs:= [.pointer (some ⟨X.Wg,1,none⟩),.bool false,.int .i64 0]) e175 rfl) ?_;rintro v J' ⟨k7,t,hk7,⟨rfl,rfl⟩,rfl⟩;refine So.mono ?_ (fun g=> Jq.jw);refine .dn (.ib ?_);refine Sc.drop (R':= [(0,.pointer (some ⟨X.Wg,0,none⟩)),(4,.bool false),(6,.int .u64 ((a*4294967296+b:Nat):Int)),(8,.int .u32 (b:Int))]) ⟨rfl,rfl,rfl,rfl,trivial⟩ ?_;refine .rg rfl rfl ?_;refine .m ?_;refine .i ?_ (z:=by assumption);refine .g ?_;refine .dn ?_;refine Sc.inLoop (by exact Jq.cl) ?_;refine Sc.drop (R':= [(8,.int .u32 0)]) ⟨rfl,trivial⟩ ?_;refine .sq (.sq (.rg rfl rfl ?_));refine .m ?_;refine .i ?_ (z:=neq_f (by omega));refine .dn (.ff rfl (.xt rfl ?_));refine Sc.over Jq.cl rfl (Jq.en e165 rfl (Sb.leave Jq.cl func103 rfl (.inl ⟨results103,rfl⟩) hK))
attribute [local irreducible] IntKind.wrap bitI Int.fdiv in
theorem dn_one {a b k:Nat}(a0:a=0)(b1:b=1)(hK:Jq prog 0 (G (cc.finish (.tuple #[])) cs)){R:Rg}
   (hR:AllIn [(0,.pointer (some ⟨X.Wg,0,none⟩)),(1,.int .i64 (-1)),(4,.bool false),(6,.int .u64 ((a*4294967296+b:Nat):Int))] R):Sc (Jw prog X κ k .d2 H) 117 b103 (cc::cs) R [dcall 165 #[]] [.code X103]:=by
 refine Sc.drop hR ?_;have hsh:=shp_wg X;have f3:=w32_m1;have g1:intBin .and .u64 ((a*4294967296+b:Nat):Int) 2147483648=some (.int .u64 0):=by rw[←g64_hi a (by omega) b (by omega)];rfl
 have g2:intBin .and .u64 ((a*4294967296+b:Nat):Int) 2147483647=some (.int .u64 (b:Int)):=by rw[←g64_lo a (by omega) b (by omega)];rfl
 have g3:shiftV .shr .u64 ((a*4294967296+b:Nat):Int) 32=some (.int .u64 (a:Int)):=by rw[←g64_sh a (by omega) b (by omega)];rfl
 have g4:=w32_s a (by omega);have g5:=wu32_s b (by omega);refine .sq (.sq (.rg rfl rfl ?_));refine .m ?_;refine .i ?_ (z:=by assumption);refine .i ?_ (z:=neq_f (by omega));refine .m ?_;refine .sk ?_;refine .sk ?_;refine .x .pk ?_;refine .dn (.ff rfl (.sp (.sq ?_)));refine Sc.drop (R':= [(0,.pointer (some ⟨X.Wg,0,none⟩)),(1,.int .i64 (-1)),(4,.bool false),(6,.int .u64 ((a*4294967296+b:Nat):Int))]) ⟨rfl,rfl,rfl,rfl,trivial⟩ ?_;refine .rg rfl rfl ?_;refine .m ?_;refine .x (OpP.shift rfl rfl rfl (by omega) (by assumption)) ?_;refine .x (OpP.conv rfl rfl un_151 un_21 (by assumption)) ?_;refine .g ?_;refine .dn (.sq ?_);refine Sc.drop (R':= [(0,.pointer (some ⟨X.Wg,0,none⟩)),(1,.int .i64 (-1)),(4,.bool false),(6,.int .u64 ((a*4294967296+b:Nat):Int)),(7,.int .i32 (a:Int))]) ⟨rfl,rfl,rfl,rfl,rfl,trivial⟩ ?_;refine .rg rfl rfl ?_;refine .m ?_;refine .i ?_ (z:=by assumption);refine .x (OpP.conv rfl rfl un_151 un_154 (by assumption)) ?_;refine .g ?_;refine .dn (.sq (.sq ?_));refine Sc.drop (R':= [(0,.pointer (some ⟨X.Wg,0,none⟩)),(1,.int .i64 (-1)),(4,.bool false),(6,.int .u64 ((a*4294967296+b:Nat):Int)),(7,.int .i32 (a:Int)),(8,.int .u32 (b:Int))]) ⟨rfl,rfl,rfl,rfl,rfl,rfl,trivial⟩ ?_;refine .rg rfl rfl ?_;refine .m ?_;refine .m ?_;refine .i ?_ (z:=gtr_f (by omega));refine .x .pk ?_;refine .m ?_;refine .sk ?_;refine .sk ?_;refine .sk ?_;refine .sk ?_;refine .x .pk ?_;refine .dn (.ff rfl (.sp (.sq (.sq ?_))));refine Sc.drop (R':= [(0,.pointer (some ⟨X.Wg,0,none⟩)),(1,.int .i64 (-1)),(4,.bool false),(6,.int .u64 ((a*4294967296+b:Nat):Int)),(7,.int .i32 (a:Int)),(8,.int .u32 (b:Int))]) ⟨rfl,rfl,rfl,rfl,rfl,rfl,trivial⟩ ?_;refine .rg rfl rfl ?_;refine .m ?_;refine .i ?_ (z:=lss_f (by omega));refine .dn (.ff rfl (.sp (.sq (.sq ?_))));refine Sc.drop (R':= [(0,.pointer (some ⟨X.Wg,0,none⟩)),(1,.int .i64 (-1)),(4,.bool false),(6,.int .u64 ((a*4294967296+b:Nat):Int)),(7,.int .i32 (a:Int)),(8,.int .u32 (b:Int))]) ⟨rfl,rfl,rfl,rfl,rfl,rfl,trivial⟩ ?_;refine .rg rfl rfl ?_;refine .m ?_;refine .i ?_ (z:=neq_t (by omega));refine .m ?_;refine .m ?_;refine .i ?_ (z:=gtr_f (by omega));refine .x .pk ?_;refine .m ?_;refine .sk ?_;refine .sk ?_;refine .sk ?_;refine .sk ?_;refine .x .pk ?_;refine .dn (.ff rfl (.sp (.sq (.sq ?_))));refine Sc.drop (R':= [(0,.pointer (some ⟨X.Wg,0,none⟩)),(1,.int .i64 (-1)),(4,.bool false),(6,.int .u64 ((a*4294967296+b:Nat):Int)),(7,.int .i32 (a:Int)),(8,.int .u32 (b:Int))]) ⟨rfl,rfl,rfl,rfl,rfl,rfl,trivial⟩ ?_;refine .rg rfl rfl ?_;refine .m ?_;refine .i ?_ (z:=gtr_f (by omega));refine .m ?_;refine .m ?_;refine .i ?_ (z:=eql_f (by omega));refine .x .pk ?_;refine .dn (.ff rfl (.sp ?_));exact dn_last a0 b1 hK ⟨rfl,rfl,rfl,rfl,trivial⟩
attribute [local irreducible] IntKind.wrap bitI Int.fdiv in
theorem donew_c {k:Nat}:AtC (Jw prog X κ k .wr H) 103 [.pointer (some ⟨X.Wg,0,none⟩),.int .i64 (-1)] fun v J'=> v=.tuple #[]∧J'=Jq prog 0:=by
 refine InC.at (by exact Jw.clX rfl) ca103 (InC.enter (vs:= [.pointer (some ⟨X.Wg,0,none⟩),.int .i64 (-1)]) func103 rfl ntmps103 (Nat.le_of_ble_eq_true rfl) fun c cs hK=> ?_);have hsh:=shp_wg X;have f1:=w64_m1;have f2:=sh64_m1;have f3:=w32_m1;refine .sq (.tt rfl (.sq (.sq (.rg rfl rfl ?_))));refine .m ?_;refine .i ?_ (z:=lss_t (by omega));refine .dn (.tt rfl (.rg rfl rfl ?_));refine .m ?_;refine .x (OpP.raw rfl rfl un_201 un_203 sz_156 (by assumption)) ?_;refine So.callD rfl rfl rfl nofun rfl (.mk' rfl) rfl (Jw.wr e163) ?_;rintro v J' ⟨rfl,k1,hk1,rfl⟩;refine .dn (.sq (.rg rfl rfl ?_));refine So.callD rfl rfl rfl nofun rfl (.mk' rfl) rfl (Jw.wk e164) ?_;rintro v J' ⟨k2,t,hk2,⟨rfl,rfl⟩,rfl⟩;refine .dn (.rg rfl rfl ?_);refine So.defer Jw.cl0 (f:=165) (vs:= []) rfl nofun rfl rfl ⟨_,rfl⟩ rfl ?_;refine .dn (.sq ?_);refine Sc.drop (R':= [(0,.pointer (some ⟨X.Wg,0,none⟩)),(1,.int .i64 (-1))]) ⟨rfl,rfl,trivial⟩ ?_;refine .rg rfl rfl ?_;refine .g ?_;refine .dn (.sq (.sq (.rg rfl rfl ?_)));refine So.callD rfl rfl rfl nofun rfl (.mk' rfl) rfl (Jw.wi e166) ?_;rintro v J' ⟨k3,t,hk3,⟨rfl,rfl⟩,rfl⟩;refine .dn (.ff rfl (.sp (.sq ?_)));refine Sc.drop (R':= [(0,.pointer (some ⟨X.Wg,0,none⟩)),(1,.int .i64 (-1)),(4,.bool false)]) ⟨rfl,rfl,rfl,trivial⟩ ?_;refine .rg rfl rfl ?_;refine .m ?_;refine .x .nk ?_;refine .x (.fa (zz:=fo_156_1)) ?_;refine .m ?_;refine .x (OpP.conv rfl rfl un_3 un_151 (by assumption)) ?_;refine .x (OpP.shift rfl rfl rfl (by omega) (by assumption)) ?_;refine So.callD rfl rfl rfl nofun rfl (.mk' rfl) rfl (add64 Jw.cl0 kw (Jw.d1 e210)) ?_;rintro v J' ⟨k4,t,hk4,⟨a,b,ha,hb,rfl,rfl⟩,rfl⟩;by_cases hq:a=0∧b=1
 · rw[if_pos hq];refine .g ?_;refine .dn ?_;exact dn_one hq.1 hq.2 (hK _ _ ⟨rfl,rfl⟩) ⟨rfl,rfl,rfl,rfl,trivial⟩
 · rw[if_neg hq];refine So.mono ?_ (fun g=> Jq.jw);refine .g ?_;refine .dn ?_;exact dn_two (by omega) (by omega) hq (hK _ _ ⟨rfl,rfl⟩) ⟨rfl,rfl,rfl,rfl,trivial⟩
theorem done_d {k n:Nat}{b:FB}{R:Rg}{ds:List Deferred}(hb:b.rd=none)
   (h:Sb (Jq prog 0) n b cs R ds):Sb (Jw prog X κ k .wr H) n b cs R (dcall 105 #[.pointer (some ⟨X.Wg,0,none⟩)]::ds):=by
 refine Sb.enterD (vs:= [.pointer (some ⟨X.Wg,0,none⟩)]) Jw.cl0 hb func105 (by kernel_rfl) rfl ntmps105 (Nat.le_of_ble_eq_true rfl) fun c hm hc=> ?_;refine .rg rfl rfl ?_;refine .m ?_;refine So.callD rfl rfl rfl nofun rfl (.mk' rfl) rfl (donew_c) ?_;rintro v J' ⟨rfl,rfl⟩;refine .dn ?_;refine Sc.over Jq.cl rfl (Sb.leaveD Jq.cl func105 rfl results105 (.inl hm) (hc _ h))
end
section
variable {X:Fk}{H:View}{Fin:Goroutine→Prop}{j:Nat}{cc:Frame}{cs:List Frame}
theorem km {K:Value→Mn→Prop}{k:Nat}:KC true (fun v J'=> ∃k' m',k'<k∧K v m'∧J'=Jm prog X Fin k' m' j H):=fun _ _ ⟨_,_,_,_,h⟩=> ⟨_,h▸Jm.cl⟩
theorem w32_1:IntKind.i32.wrap 1=1:=by decide +kernel
attribute [local irreducible] IntKind.wrap bitI Int.fdiv in
theorem addone_c {k:Nat}:AtC (Jm prog X Fin k .kd j H) 103 [.pointer (some ⟨X.Wg,0,none⟩),.int .i64 1] fun v J'=> v=.tuple #[]∧∃k',J'=Jm prog X Fin k' .go j H:=by
 refine InC.at (by exact Jm.cl) ca103 (InC.enter (vs:= [.pointer (some ⟨X.Wg,0,none⟩),.int .i64 1]) func103 rfl ntmps103 (Nat.le_of_ble_eq_true rfl) fun c cs hK=> ?_);have hsh:=shp_wg1 X;have f1:=w64_1;have f2:=sh64_1;have f3:=w32_1;refine .sq (.tt rfl (.sq (.sq (.rg rfl rfl ?_))));refine .m ?_;refine .i ?_ (z:=lss_f (by omega));refine .dn (.ff rfl (.sp (.sq (.rg rfl rfl ?_))));refine So.callD rfl rfl rfl nofun rfl (.mk' rfl) rfl (Jm.kd e164) ?_;rintro v J' ⟨k2,t,hk2,⟨rfl,rfl⟩,rfl⟩;refine .dn (.rg rfl rfl ?_);refine So.defer Jm.cl (f:=165) (vs:= []) rfl nofun rfl rfl ⟨_,rfl⟩ rfl ?_;refine .dn (.sq (.rg rfl rfl ?_));refine .g ?_;refine .dn (.sq (.sq (.rg rfl rfl ?_)));refine So.callD rfl rfl rfl nofun rfl (.mk' rfl) rfl (Jm.ki e166) ?_;rintro v J' ⟨k3,t,hk3,⟨rfl,rfl⟩,rfl⟩;refine .dn (.ff rfl (.sp (.sq (.rg rfl rfl ?_))));refine .m ?_;refine .x .nk ?_;refine .x (.fa (zz:=fo_156_1)) ?_;refine .m ?_;refine .x (OpP.conv rfl rfl un_3 un_151 (by assumption)) ?_;refine .x (OpP.shift rfl rfl rfl (by omega) (by assumption)) ?_;refine So.callD rfl rfl rfl nofun rfl (.mk' rfl) rfl (add64 Jm.cl km (Jm.ka e210)) ?_;rintro v J' ⟨k4,t,hk4,⟨a,ha,rfl,rfl⟩,rfl⟩;have e0:(((a+1)*4294967296:Nat):Int)=(((a+1)*4294967296+0:Nat):Int):=(congrArg (fun x:Nat=> (x:Int)) (Nat.add_zero _)).symm;have g1:intBin .and .u64 (((a+1)*4294967296:Nat):Int) 2147483648=some (.int .u64 0):=by rw[e0,←g64_hi (a+1) (by omega) 0 (by omega)];rfl
 have g2:intBin .and .u64 (((a+1)*4294967296:Nat):Int) 2147483647=some (.int .u64 0):=by
   have:=g64_lo (a+1) (by omega) 0 (by omega);rw[e0];exact congrArg (fun x=> some (Value.int .u64 x)) this
 have g3:shiftV .shr .u64 (((a+1)*4294967296:Nat):Int) 32=some (.int .u64 ((a+1:Nat):Int)):=by rw[e0,←g64_sh (a+1) (by omega) 0 (by omega)];rfl
 have g4:=w32_s (a+1) (by omega);have g5:IntKind.u32.wrap 0=0:=wu32_s 0 (by omega);have gg:(0:Int)<((a+1:Nat):Int):=by omega
 refine .g ?_;refine .dn ?_;refine Sc.drop (R':= [(0,.pointer (some ⟨X.Wg,0,none⟩)),(1,.int .i64 1),(4,.bool false),(6,.int .u64 (((a+1)*4294967296:Nat):Int))]) ⟨rfl,rfl,rfl,rfl,trivial⟩ ?_;refine .sq (.sq (.rg rfl rfl ?_));refine .m ?_;refine .i ?_ (z:=by assumption);refine .i ?_ (z:=neq_f (by omega));refine .m ?_;refine .sk ?_;refine .sk ?_;refine .x .pk ?_;refine .dn (.ff rfl (.sp (.sq ?_)));refine Sc.drop (R':= [(0,.pointer (some ⟨X.Wg,0,none⟩)),(1,.int .i64 1),(4,.bool false),(6,.int .u64 (((a+1)*4294967296:Nat):Int))]) ⟨rfl,rfl,rfl,rfl,trivial⟩ ?_;refine .rg rfl rfl ?_;refine .m ?_;refine .x (OpP.shift rfl rfl rfl (by omega) (by assumption)) ?_;refine .x (OpP.conv rfl rfl un_151 un_21 (by assumption)) ?_;refine .g ?_;refine .dn ?_;refine Sc.drop (R':= [(0,.pointer (some ⟨X.Wg,0,none⟩)),(1,.int .i64 1),(4,.bool false),(6,.int .u64 (((a+1)*4294967296:Nat):Int)),(7,.int .i32 ((a+1:Nat):Int))]) ⟨rfl,rfl,rfl,rfl,rfl,trivial⟩ ?_;refine .sq (.rg rfl rfl ?_);refine .m ?_;refine .i ?_ (z:=by assumption);refine .x (OpP.conv rfl rfl un_151 un_154 (by assumption)) ?_;refine .g ?_;refine .dn ?_;refine Sc.drop (R':= [(0,.pointer (some ⟨X.Wg,0,none⟩)),(1,.int .i64 1),(4,.bool false),(7,.int .i32 ((a+1:Nat):Int)),(8,.int .u32 0)]) ⟨rfl,rfl,rfl,rfl,rfl,trivial⟩ ?_;refine .sq (.sq ?_);by_cases hz:a=0
 · rw[if_pos hz];have q1:intBin .eql .i32 ((a+1:Nat):Int) 1=some (.bool true):=eql_t (by omega);refine .rg rfl rfl ?_;refine .m ?_;refine .m ?_;refine .i ?_ (z:=gtr_t (by omega));refine .x .pk ?_;refine .m ?_;refine .m ?_;refine .m ?_;refine .x (OpP.conv rfl rfl un_3 un_21 (by assumption)) ?_;refine .i ?_ (z:=by assumption);refine .x .pk ?_;refine .dn (.tt rfl ?_);refine Sc.drop (R':= [(0,.pointer (some ⟨X.Wg,0,none⟩)),(1,.int .i64 1),(4,.bool false),(7,.int .i32 ((a+1:Nat):Int)),(8,.int .u32 0)]) ⟨rfl,rfl,rfl,rfl,rfl,trivial⟩ ?_;refine .rg rfl rfl ?_;refine .m ?_;refine .x .nk ?_;refine .x (.fa (zz:=fo_156_2)) ?_;refine .x (OpP.raw rfl rfl un_208 un_203 sz_154 (by assumption)) ?_;refine So.callD rfl rfl rfl nofun rfl (.mk' rfl) rfl (Jm.kr e171) ?_;rintro v J' ⟨rfl,k5,hk5,rfl⟩;refine .dn ?_;refine Sc.drop (R':= [(0,.pointer (some ⟨X.Wg,0,none⟩)),(1,.int .i64 1),(4,.bool false),(7,.int .i32 ((a+1:Nat):Int)),(8,.int .u32 0)]) ⟨rfl,rfl,rfl,rfl,rfl,trivial⟩ ?_;refine .sq (.sq (.rg rfl rfl ?_));refine .m ?_;refine .i ?_ (z:=lss_f (by omega));refine .dn (.ff rfl (.sp (.sq (.sq (.rg rfl rfl ?_)))));refine .m ?_;refine .i ?_ (z:=neq_f (by omega));refine .m ?_;refine .sk ?_;refine .sk ?_;refine .x .pk ?_;refine .m ?_;refine .sk ?_;refine .sk ?_;refine .sk ?_;refine .sk ?_;refine .x .pk ?_;refine .dn (.ff rfl (.sp (.sq (.sq ?_))));refine Sc.drop (R':= [(0,.pointer (some ⟨X.Wg,0,none⟩)),(1,.int .i64 1),(4,.bool false),(7,.int .i32 ((a+1:Nat):Int)),(8,.int .u32 0)]) ⟨rfl,rfl,rfl,rfl,rfl,trivial⟩ ?_;refine .rg rfl rfl ?_;refine .m ?_;refine .i ?_ (z:=gtr_t (by omega));refine .m ?_;refine .sk ?_;refine .sk ?_;refine .x .pk ?_;refine .dn (.tt rfl ?_);refine Sc.retCode Jm.cl rfl (Jm.ke e165 rfl (fun k' _=> Sb.leave Jm.cl func103 rfl (.inl ⟨results103,rfl⟩) (hK _ _ ⟨rfl,k',rfl⟩)))
 · rw[if_neg hz];have q1:intBin .eql .i32 ((a+1:Nat):Int) 1=some (.bool false):=eql_f (by omega);refine .rg rfl rfl ?_;refine .m ?_;refine .m ?_;refine .i ?_ (z:=gtr_t (by omega));refine .x .pk ?_;refine .m ?_;refine .m ?_;refine .m ?_;refine .x (OpP.conv rfl rfl un_3 un_21 (by assumption)) ?_;refine .i ?_ (z:=by assumption);refine .x .pk ?_;refine .dn (.ff rfl (.sp (.sq (.sq ?_))));refine Sc.drop (R':= [(0,.pointer (some ⟨X.Wg,0,none⟩)),(1,.int .i64 1),(4,.bool false),(7,.int .i32 ((a+1:Nat):Int)),(8,.int .u32 0)]) ⟨rfl,rfl,rfl,rfl,rfl,trivial⟩ ?_;refine .rg rfl rfl ?_;refine .m ?_;refine .i ?_ (z:=lss_f (by omega));refine .dn (.ff rfl (.sp (.sq (.sq (.rg rfl rfl ?_)))));refine .m ?_;refine .i ?_ (z:=neq_f (by omega));refine .m ?_;refine .sk ?_;refine .sk ?_;refine .x .pk ?_;refine .m ?_;refine .sk ?_;refine .sk ?_;refine .sk ?_;refine .sk ?_;refine .x .pk ?_;refine .dn (.ff rfl (.sp (.sq (.sq ?_))));refine Sc.drop (R':= [(0,.pointer (some ⟨X.Wg,0,none⟩)),(1,.int .i64 1),(4,.bool false),(7,.int .i32 ((a+1:Nat):Int)),(8,.int .u32 0)]) ⟨rfl,rfl,rfl,rfl,rfl,trivial⟩ ?_;refine .rg rfl rfl ?_;refine .m ?_;refine .i ?_ (z:=gtr_t (by omega));refine .m ?_;refine .sk ?_;refine .sk ?_;refine .x .pk ?_;refine .dn (.tt rfl ?_);refine Sc.retCode Jm.cl rfl (Jm.ke e165 rfl (fun k' _=> Sb.leave Jm.cl func103 rfl (.inl ⟨results103,rfl⟩) (hK _ _ ⟨rfl,k',rfl⟩)))
end
section
variable {X:Fk}{H:View}{Fin:Goroutine→Prop}{j:Nat}{cc:Frame}{cs:List Frame}
noncomputable def B165:Code:=cB (cB (cR (bodyOf Tryz.f107)))
abbrev b107:FB:=⟨107,.normal,none⟩
attribute [local irreducible] IntKind.wrap bitI Int.fdiv in
theorem wait_head(hc:Cl prog true noSh Fin)(hK:Fin (G (cc.finish (.tuple #[])) cs))(k:Nat):∀R:Rg,AllIn [(0,.pointer (some ⟨X.Wg,0,none⟩))] R→Sc (Jm prog X Fin k .w1 j H) 84 b107 (cc::cs) R [] [.code B165,.inLoop B165,.inBlock 0]:=by
 induction k using Nat.strongRecOn with
 | ind k IH=>
   intro R hR;refine Sc.drop hR ?_;have hsh:=shp_wg X;have hsh1:=shp_wg1 X;refine Sc.block (by first|exact Jm.cl|exact hc) ?_;refine Sc.seq (by first|exact Jm.cl|exact hc) ?_;refine .rg rfl rfl ?_;refine .m ?_;refine .x .nk ?_;refine .x (.fa (zz:=fo_156_1)) ?_;refine So.callD rfl rfl rfl nofun rfl (.mk' rfl) rfl (load64 Jm.cl km (Jm.w1 e211)) ?_;rintro v J' ⟨k1,t,hk1,⟨a,ha,rfl,rfl⟩,rfl⟩;have e0:((a*4294967296:Nat):Int)=((a*4294967296+0:Nat):Int):=(congrArg (fun x:Nat=> (x:Int)) (Nat.add_zero _)).symm;have g1:intBin .and .u64 ((a*4294967296:Nat):Int) 2147483648=some (.int .u64 0):=by rw[e0,←g64_hi a (by omega) 0 (by omega)];rfl
   have g2:intBin .and .u64 ((a*4294967296:Nat):Int) 2147483647=some (.int .u64 0):=by
     have:=g64_lo a (by omega) 0 (by omega);rw[e0];exact congrArg (fun x=> some (Value.int .u64 x)) this
   have g3:shiftV .shr .u64 ((a*4294967296:Nat):Int) 32=some (.int .u64 (a:Int)):=by rw[e0,←g64_sh a (by omega) 0 (by omega)];rfl
   have g4:=w32_s a (by omega);have g5:IntKind.u32.wrap 0=0:=wu32_s 0 (by omega);have g6:intBin .add .u64 ((a*4294967296:Nat):Int) 1=some (.int .u64 ((a*4294967296+1:Nat):Int)):=by
     have h:∀a:Nat,a<8→IntKind.u64.wrap (((a*4294967296:Nat):Int)+1)=((a*4294967296+1:Nat):Int):=by decide +kernel
     exact congrArg (fun x=> some (Value.int .u64 x)) (h a (by omega))
   refine .g ?_;refine .dn ?_;refine Sc.drop (R':= [(0,.pointer (some ⟨X.Wg,0,none⟩)),(2,.int .u64 ((a*4294967296:Nat):Int))]) ⟨rfl,rfl,trivial⟩ ?_;refine Sc.seq (by first|exact Jm.cl|exact hc) ?_;refine .rg rfl rfl ?_;refine .m ?_;refine .x (OpP.shift rfl rfl rfl (by omega) (by assumption)) ?_;refine .x (OpP.conv rfl rfl un_151 un_21 (by assumption)) ?_;refine .g ?_;refine .dn ?_;refine Sc.drop (R':= [(0,.pointer (some ⟨X.Wg,0,none⟩)),(2,.int .u64 ((a*4294967296:Nat):Int)),(3,.int .i32 (a:Int))]) ⟨rfl,rfl,rfl,trivial⟩ ?_;refine Sc.seq (by first|exact Jm.cl|exact hc) ?_;refine .rg rfl rfl ?_;refine .m ?_;refine .i ?_ (z:=by assumption);refine .x (OpP.conv rfl rfl un_151 un_154 (by assumption)) ?_;refine .g ?_;refine .dn ?_;refine Sc.drop (R':= [(0,.pointer (some ⟨X.Wg,0,none⟩)),(2,.int .u64 ((a*4294967296:Nat):Int)),(3,.int .i32 (a:Int)),(4,.int .u32 0)]) ⟨rfl,rfl,rfl,rfl,trivial⟩ ?_;refine Sc.seq (by first|exact Jm.cl|exact hc) ?_;refine Sc.seq (by first|exact Jm.cl|exact hc) ?_;by_cases hz:a=0
   · rw[if_pos hz];have q1:intBin .eql .i32 (a:Int) 0=some (.bool true):=eql_t (by omega);refine .rg rfl rfl ?_;refine .m ?_;refine .i ?_ (z:=by assumption);refine .dn ?_;refine Sc.cond (by first|exact Jm.cl|exact hc) (t:=true) rfl (fun _=> ?_) (fun h=> nomatch h);refine Sc.seq (by first|exact Jm.cl|exact hc) ?_;refine Sc.cond (by first|exact Jm.cl|exact hc) (t:=true) rfl (fun _=> ?_) (fun h=> nomatch h);refine Sc.seq (by first|exact Jm.cl|exact hc) ?_;refine .rg rfl rfl ?_;refine So.callD rfl rfl rfl nofun rfl (.mk' rfl) rfl (Jm.we e165) ?_;rintro v J' ⟨k2,t,hk2,⟨rfl,rfl⟩,rfl⟩;refine .dn (.rg rfl rfl ?_);refine .m ?_;refine .x (OpP.raw rfl rfl un_201 un_203 sz_156 (by assumption)) ?_;refine So.callD rfl rfl rfl nofun rfl (.mk' rfl) rfl (Jm.aq e176) ?_;rintro v J' ⟨rfl,rfl⟩;refine .dn (.sq (.sq (.rg rfl rfl ?_)));refine .m ?_;refine .i ?_ (z:=eql_t (by omega));refine .m ?_;refine .m ?_;refine .i ?_ (z:=by assumption);refine .i ?_ (z:=neq_f (by omega));refine .x .pk ?_;refine .m ?_;refine .sk ?_;refine .sk ?_;refine .x .pk ?_;refine .dn (.ff rfl (.sp ?_));refine Sc.retCode (by exact hc) rfl (Sb.leave (by exact hc) func107 rfl (by exact .inl ⟨results107,rfl⟩) ?_);exact hK
   · rw[if_neg hz];have q1:intBin .eql .i32 (a:Int) 0=some (.bool false):=eql_f (by omega);refine .rg rfl rfl ?_;refine .m ?_;refine .i ?_ (z:=by assumption);refine .dn ?_;refine Sc.cond (by first|exact Jm.cl|exact hc) (t:=false) rfl (fun h=> nomatch h) (fun _=> ?_);refine Sc.skip (by first|exact Jm.cl|exact hc) ?_;refine Sc.seq (by first|exact Jm.cl|exact hc) ?_;refine .rg rfl rfl ?_;refine .m ?_;refine .x .nk ?_;refine .x (.fa (zz:=fo_156_1)) ?_;refine .m ?_;refine .m ?_;refine .i ?_ (z:=by assumption);refine So.callD rfl rfl rfl nofun rfl (.mk' rfl) rfl (cas64 Jm.cl km (Jm.w2 e213)) ?_;rintro v J' ⟨k2,t,hk2,⟨rfl,rfl⟩|⟨rfl,rfl⟩,rfl⟩
     · refine .dn ?_;refine Sc.cond (by first|exact Jm.cl|exact hc) (t:=true) rfl (fun _=> ?_) (fun h=> nomatch h);refine Sc.seq (by first|exact Jm.cl|exact hc) ?_;refine Sc.seq (by first|exact Jm.cl|exact hc) ?_;refine Sc.drop (R':= [(0,.pointer (some ⟨X.Wg,0,none⟩)),(2,.int .u64 ((a*4294967296:Nat):Int)),(4,.int .u32 0)]) ⟨rfl,rfl,rfl,trivial⟩ ?_;refine .rg rfl rfl ?_;refine .m ?_;refine .m ?_;refine .i ?_ (z:=eql_t (by omega));refine .x .pk ?_;refine .dn ?_;refine Sc.cond (by first|exact Jm.cl|exact hc) (t:=true) rfl (fun _=> ?_) (fun h=> nomatch h);refine .rg rfl rfl ?_;refine .m ?_;refine .x .nk ?_;refine .x (.fa (zz:=fo_156_2)) ?_;refine .x (OpP.raw rfl rfl un_208 un_203 sz_154 (by assumption)) ?_;refine So.callD rfl rfl rfl nofun rfl (.mk' rfl) rfl (Jm.wm e179) ?_;rintro v J' ⟨rfl,k3,hk3,rfl⟩;refine .dn ?_;refine Sc.drop (R':= [(0,.pointer (some ⟨X.Wg,0,none⟩)),(2,.int .u64 ((a*4294967296:Nat):Int)),(4,.int .u32 0)]) ⟨rfl,rfl,rfl,trivial⟩ ?_;refine Sc.seq (by first|exact Jm.cl|exact hc) ?_;refine .rg rfl rfl ?_;refine .g ?_;refine .dn ?_;refine Sc.seq (by first|exact Jm.cl|exact hc) ?_;refine Sc.seq (by first|exact Jm.cl|exact hc) ?_;refine .rg rfl rfl ?_;refine .m ?_;refine .i ?_ (z:=by assumption);refine .i ?_ (z:=neq_f (by omega));refine .m ?_;refine .sk ?_;refine .x .pk ?_;refine .dn ?_;refine Sc.cond (by first|exact Jm.cl|exact hc) (t:=false) rfl (fun h=> nomatch h) (fun _=> ?_);refine Sc.skip (by first|exact Jm.cl|exact hc) ?_;refine Sc.seq (by first|exact Jm.cl|exact hc) ?_;refine .rg rfl rfl ?_;refine .m ?_;refine .x .nk ?_;refine .x (.fa (zz:=fo_156_2)) ?_;refine .m ?_;refine So.callD rfl rfl rfl nofun rfl (.mk' rfl) rfl (Jm.ws (vs:= [.pointer (some ⟨X.Wg,1,none⟩),.bool false]) e180 rfl) ?_;rintro v J' ⟨k4,t,hk4,⟨rfl,rfl⟩,rfl⟩;refine .dn ?_;refine Sc.drop (R':= [(0,.pointer (some ⟨X.Wg,0,none⟩))]) ⟨rfl,trivial⟩ ?_;refine Sc.seq (by first|exact Jm.cl|exact hc) ?_;refine .rg rfl rfl ?_;refine .m ?_;refine .x .nk ?_;refine .x (.fa (zz:=fo_156_1)) ?_;refine So.callD rfl rfl rfl nofun rfl (.mk' rfl) rfl (load64 Jm.cl km (Jm.w4 e211)) ?_;rintro v J' ⟨k5,t,hk5,⟨rfl,rfl⟩,rfl⟩;refine .i ?_ (z:=neq_f (by omega));refine .g ?_;refine .dn ?_;refine Sc.seq (by first|exact Jm.cl|exact hc) ?_;refine Sc.cond (by first|exact Jm.cl|exact hc) (t:=true) rfl (fun _=> ?_) (fun h=> nomatch h);refine Sc.seq (by first|exact Jm.cl|exact hc) ?_;refine .rg rfl rfl ?_;refine So.callD rfl rfl rfl nofun rfl (.mk' rfl) rfl (Jm.we e165) ?_;rintro v J' ⟨k6,t,hk6,⟨rfl,rfl⟩,rfl⟩;refine .dn (.rg rfl rfl ?_);refine .m ?_;refine .x (OpP.raw rfl rfl un_201 un_203 sz_156 (by assumption)) ?_;refine So.callD rfl rfl rfl nofun rfl (.mk' rfl) rfl (Jm.aq e176) ?_;rintro v J' ⟨rfl,rfl⟩;refine .dn (.sq (.sq (.rg rfl rfl ?_)));refine .m ?_;refine .dn (.ff rfl (.sp ?_));refine Sc.retCode (by exact hc) rfl (Sb.leave (by exact hc) func107 rfl (by exact .inl ⟨results107,rfl⟩) ?_);exact hK
     · refine .dn ?_;refine Sc.cond (by first|exact Jm.cl|exact hc) (t:=false) rfl (fun h=> nomatch h) (fun _=> ?_);refine Sc.skip (by first|exact Jm.cl|exact hc) ?_;refine Sc.inBlock (by first|exact Jm.cl|exact hc) ?_;refine Sc.inLoop (by exact Jm.cl) ?_;exact IH k2 (by omega) _ ⟨rfl,trivial⟩
theorem wait_c {k:Nat}(hc:Cl prog true noSh Fin):AtC (Jm prog X Fin k .wd j H) 107 [.pointer (some ⟨X.Wg,0,none⟩)] fun v J'=> v=.tuple #[]∧J'=Fin:=by
 refine InC.at (by exact Jm.cl) ca107 (InC.enter (vs:= [.pointer (some ⟨X.Wg,0,none⟩)]) func107 rfl ntmps107 (Nat.le_of_ble_eq_true rfl) fun c cs hK=> ?_);refine Sc.seq (by first|exact Jm.cl|exact hc) ?_;refine Sc.cond (by first|exact Jm.cl|exact hc) (t:=true) rfl (fun _=> ?_) (fun h=> nomatch h);refine .rg rfl rfl ?_;refine So.callD rfl rfl rfl nofun rfl (.mk' rfl) rfl (Jm.wd e164) ?_;rintro v J' ⟨k2,t,hk2,⟨rfl,rfl⟩,rfl⟩;refine .dn ?_;refine Sc.block (by first|exact Jm.cl|exact hc) ?_;refine Sc.loop (by exact Jm.cl) ?_;exact wait_head hc (hK _ _ ⟨rfl,rfl⟩) k2 _ ⟨rfl,trivial⟩
end
end Go.Proofs.YtdnfdeplcjaonaaGreatDoor
namespace Go.RL
open Go.Conc
section
variable {P:Program}{M:Md P}{md:Region.Mode}{ops:Array Oper}{S:Array Bool→View→Prop}{Fin:Array Value→View→Prop}{z:Nat}
theorem waits_not {i j:Nat}{listed:Array Bool}(h:waits md ops i j=true)(hi:i∈Region.ready md ops listed)(hj:j∈Region.ready md ops listed):False:=by
 unfold waits at h;obtain⟨_,o,ho,hall⟩:=mem_ready.1 hj;rw[ho] at h;simp only at h;rw[Array.any_eq_true'] at h;obtain⟨e,he,hb⟩:=h;simp only[Bool.and_eq_true,beq_iff_eq] at hb;have h1:=hall e he hb.1;have h0:=(mem_ready.1 hi).1;rw[hb.2] at h1;rcases Nat.lt_or_ge i listed.size with h'|h'
 · simp[h'] at h0 h1;rw[h0] at h1;cases h1
 · simp[Array.getElem?_eq_none h'] at h1
def AnyL(M:Md P)(md:Region.Mode)(ops:Array Oper)(S:Array Bool→View→Prop)(z:Nat)(Fin:Array Value→View→Prop):Nat→Array Bool→Array Value→View→Prop
 | 0,listed,tmps,H=> ∀H₂,H.le H₂→S listed H₂→Region.ready md ops listed= [z]∧Fin tmps H₂
 | fuel+1,listed,tmps,H=> ∀H₂,H.le H₂→S listed H₂→
   (Region.ready md ops listed≠ [])∧
   ∀i∈Region.ready md ops listed,∀o,ops[i]? =some o→OneT M ops o tmps H₂ fun tmps' H'=> S (listed.setIfInBounds i true) H'∧AnyL M md ops S z Fin fuel (listed.setIfInBounds i true) tmps' H'
theorem AnyL.mono {fuel:Nat}{listed:Array Bool}{tmps:Array Value}{H H':View}(h:AnyL M md ops S z Fin fuel listed tmps H)(k:H.le H'):AnyL M md ops S z Fin fuel listed tmps H':=by
 cases fuel with
 | zero=> exact fun H₂ h2 hS=> h H₂ (View.le_trans k h2) hS
 | succ fuel=> exact fun H₂ h2 hS=> h H₂ (View.le_trans k h2) hS
theorem go_step(fuel t:Nat)(listed:Array Bool):Region.linearise.go md ops (fuel+1) t listed []=match (Region.ready md ops listed)[t%(Region.ready md ops listed).length]? with
   | some i=> i::Region.linearise.go md ops fuel (t/(Region.ready md ops listed).length) (listed.setIfInBounds i true) []
   | none=> []:=by
 rw[Region.linearise.go];show(match (Region.ready md ops listed)[t%(Region.ready md ops listed).length]? with
   | some i=> Region.linearise.go md ops fuel (t/(Region.ready md ops listed).length) (listed.setIfInBounds i true) [i]
   | none=> List.reverse [])=_
 split
 · rename_i i _
   rw[linearise_go_acc];rfl
 · rfl
theorem AnyL.sound {St:View→Goroutine→Prop}{b:FB}{ds:List Deferred}{k:List Item}{cs:List Frame}:∀(fuel t:Nat) (listed:Array Bool) (tmps:Array Value) (H:View),S listed H→
   AnyL M md ops S z (fun tmps H=> T M St H (G (b.at tmps ds (.inRegion ops [z]::k)) cs)) fuel listed tmps H→T M St H (G (b.at tmps ds (.inRegion ops (Region.linearise.go md ops (fuel+1) t listed [])::k)) cs):=by
 intro fuel;induction fuel with
 | zero=>
   intro t listed tmps H hS h;obtain⟨h1,h2⟩:=h H (View.le_refl H) hS;rw[go_step,h1];simp only[List.length_singleton,Nat.mod_one,List.getElem?_cons_zero,Region.linearise.go,List.reverse_nil];exact h2
 | succ fuel ih=>
   intro t listed tmps H hS h;have h:=h H (View.le_refl H) hS;rw[go_step];split
   · rename_i i hi
     have hmem:=List.mem_of_getElem? hi;obtain⟨_,o,ho,_⟩:=mem_ready.1 hmem;exact OneT.sound ho ((h.2 i hmem o ho).mono fun t' H' hk=> ih _ _ _ _ hk.1 hk.2)
   · rename_i hi
     exfalso
     cases hr:Region.ready md ops listed with
     | nil=> exact h.1 hr
     | cons a l=>
       rw[hr] at hi;have:t%(a::l).length<(a::l).length:=Nat.mod_lt _ (by simp);rw[List.getElem?_eq_getElem this] at hi;cases hi
theorem AnyL.first {i:Nat}{oi:Oper}{v:Value}(hi:ops[i]? =some oi)(hsel:∀(j:Nat) (o:Oper) cs b,ops[j]? =some o→o.op≠ .select cs b)(hdi:isDefer oi.op=false)(hz:waits md ops i z=true)(hSi:∀listed H,S (listed.setIfInBounds i true) H↔S listed H):
   ∀ (fuel:Nat) (listed:Array Bool) (tmps:Array Value) (H:View),
     (∀j oj,ops[j]? =some oj→j≠i→listed.getD j true=false→(∀e∈oj.after,Region.binds md e=true→e.on≠i)→oi.apart ops oj=true)→
     closedL md ops listed=true→i∈Region.ready md ops listed→YieldsT M md ops S i oi v tmps→
     AnyL M md ops S z Fin fuel (listed.setIfInBounds i true) (putT tmps oi.dst v) H→AnyL M md ops S z Fin (fuel+1) listed tmps H:=by
 have own:∀(fuel:Nat) (listed:Array Bool) (tmps:Array Value) (H:View),closedL md ops listed=true→i∈Region.ready md ops listed→YieldsT M md ops S i oi v tmps→S listed H→AnyL M md ops S z Fin fuel (listed.setIfInBounds i true) (putT tmps oi.dst v) H→
     OneT M ops oi tmps H fun t H'=> S (listed.setIfInBounds i true) H'∧AnyL M md ops S z Fin fuel (listed.setIfInBounds i true) t H':=by
   intro fuel listed tmps H hcl hrd hy hS h;refine⟨hdi,?_⟩;rcases hy with ⟨hw,hv⟩|⟨hw,rfl⟩
   · rw[if_pos hw];refine(hv listed hcl (mem_ready.1 hrd).1 H hS).run ?_;rintro u H' ⟨rfl,hle,hS'⟩;exact⟨(hSi listed H').2 hS',h.mono hle⟩
   · rw[if_neg (by simp[hw])];exact⟨(hSi listed H).2 hS,h⟩
 intro fuel;induction fuel with
 | zero=>
   intro listed tmps H _ hcl hr hy h H₂ h2 hS;refine⟨fun e=> (by rw[e] at hr;cases hr),fun j hj o ho=> ?_⟩;by_cases hji:j=i
   · subst hji;rw[hi] at ho;cases ho
     exact own 0 listed tmps H₂ hcl hr hy hS (h.mono h2)
   · have:=ready_mono hj hji;rw[(h H₂ h2 ((hSi listed H₂).2 hS)).1,List.mem_singleton] at this;subst this;exact(waits_not hz hr hj).elim
 | succ fuel ih=>
   intro listed tmps H hfree hcl hr hy h H₂ h2 hS;refine⟨fun e=> (by rw[e] at hr;cases hr),fun j hj oj hoj=> ?_⟩;by_cases hji:j=i
   · subst hji;rw[hi] at hoj;cases hoj
     exact own (fuel+1) listed tmps H₂ hcl hr hy hS (h.mono h2)
   · have h1:=(h H₂ h2 ((hSi listed H₂).2 hS)).2 j (ready_mono hj hji) oj hoj;have hcl':=closedL_ready hcl hj;obtain⟨hjun,oj',hoj',hall⟩:=mem_ready.1 hj;rw[hoj] at hoj';cases hoj'
     have hnot:∀e∈oj.after,Region.binds md e=true→e.on≠i:=fun e he hb heq=> by
       have h1:=hall e he hb;have h0:=(mem_ready.1 hr).1;rw[heq] at h1;rcases Nat.lt_or_ge i listed.size with h'|h'
       · simp[h'] at h0 h1;rw[h0] at h1;cases h1
       · simp[Array.getElem?_eq_none h'] at h1
     have hap:=hfree j oj hoj hji hjun hnot;have hfree':∀k ok,ops[k]? =some ok→k≠i→(listed.setIfInBounds j true).getD k true=false→
         (∀e∈ok.after,Region.binds md e=true→e.on≠i)→oi.apart ops ok=true:=fun k ok hk hki hun hno=> by
       refine hfree k ok hk hki ?_ hno;by_cases hjk:j=k
       · subst hjk;exact hjun
       · rw[getD_set_ne true hjk] at hun;exact hun
     refine(h1.back hap (fun cs b=> hsel j oj cs b hoj)).mono ?_;rintro t H' ⟨⟨u,rfl⟩,hS',h3⟩;rw[Array.setIfInBounds_comm _ _ (Ne.symm hji)] at hS';refine⟨(hSi _ H').1 hS',ih (listed.setIfInBounds j true) _ H' hfree' hcl' (ready_mono hr (Ne.symm hji)) (hy.put (fun cs b=> hsel i oi cs b hi) (Oper.apart_spec hap).2.2) ?_⟩;rw[Array.setIfInBounds_comm _ _ hji];exact h3
end
section
variable {P:Program}{M:Md P}{St:View→Goroutine→Prop}{n:Nat}{b:FB}{H₀:View}{cs:List Frame}{R:Rg}{L L':Bl}{ds:List Deferred}{k:List Item}{S:Array Bool→View→Prop}{md:Region.Mode}{ops:Array Oper}{z:Nat}
def Tl(M:Md P)(St:View→Goroutine→Prop)(n:Nat)(b:FB)(H₀:View)(cs:List Frame)(S:Array Bool→View→Prop)(md:Region.Mode)(ops:Array Oper)(z:Nat)(fuel:Nat)(listed:Array Bool)(R:Rg)(L:Bl)(ds:List Deferred)(k:List Item):Prop:=
 ∀H tmps,SymSt H₀ L H→RegOk n R tmps→S listed H→AnyL M md ops S z (fun tmps H=> T M St H (G (b.at tmps ds (.inRegion ops [z]::k)) cs)) fuel listed tmps H
theorem Tl.done {listed:Array Bool}{o:Oper}(hr:Region.ready md ops listed= [z])(ho:ops[z]? =some o)(h:To M St n b H₀ cs (ops.toList.map (fun o:Oper=> o.dst)) R L ds [o] k):Tl M St n b H₀ cs S md ops z 0 listed R L ds k:=fun H tmps hs hr' _ H₂ h2 _=>
 ⟨hr,h ops [z] (fun j=> by
   simp only[List.getElem?_map,Array.getElem?_toList];cases ops[j]? <;> rfl) (by simp[ho]) H₂ tmps (hs.mono h2) hr'⟩
theorem Tl.take(i:Nat){o:Oper}{d:Nat}{v:Value}{fuel:Nat}{listed:Array Bool}(hi:ops[i]? =some o)(hsel:Region.noSelect ops=true)(hr:(Region.ready md ops listed).contains i=true)(hf:Region.free md ops listed i=true)
   (hd:o.dst=some d) (hn:d<n) (hnd:isDefer o.op=false) (hz:waits md ops i z=true) (hcl:closedL md ops listed=true) (hSi:∀listed H,S (listed.setIfInBounds i true) H↔S listed H) (hw:wantB (ops.toList.map (fun o:Oper=> o.dst)) R o=some true)
   (hv:∀listed,closedL md ops listed=true→listed.getD i true=false→∀H tmps,S listed H→RegOk n R tmps→OpVal M o tmps H fun u H'=> u=v∧H.le H'∧S listed H')
   (h:Tl M St n b H₀ cs S md ops z fuel (listed.setIfInBounds i true) ((d,v)::R) L ds k):Tl M St n b H₀ cs S md ops z (fuel+1) listed R L ds k:=fun H tmps hs hr' hS=> by
 refine AnyL.first hi (Region.noSelect_spec hsel) hnd hz hSi fuel listed tmps H (fun j oj hj hne hun hno=> Region.free_spec hi hf j oj hj hne hun hno) hcl (by simpa using hr) (.inl ⟨wantB_ok (fun j=> ?_) hr' hw,fun l hcl hu H hSH=> hv l hcl hu H tmps hSH hr'⟩) ?_
 · simp only[List.getElem?_map,Array.getElem?_toList];cases ops[j]? <;> rfl
 · rw[hd];exact h H _ hs (hr'.put hn v) ((hSi _ H).2 hS)
theorem Tl.tk(i:Nat){o:Oper}{d:Nat}{v:Value}{fuel:Nat}{listed:Array Bool}(hc:takeOk md ops [] listed i=true)(hz:waits md ops i z=true)(hi:ops[i]? =some o)(hd:o.dst=some d)(hn:d<n)(hnd:isDefer o.op=false)(hw:wantB (ops.toList.map (fun o:Oper=> o.dst)) R o=some true)
   (hv:∀H tmps,SymSt H₀ L H→RegOk n R tmps→OpVal M o tmps H fun u H'=> u=v∧H.le H')
   (h:Tl M St n b H₀ cs (fun _=> SymSt H₀ L) md ops z fuel (listed.setIfInBounds i true) ((d,v)::R) L ds k):Tl M St n b H₀ cs (fun _=> SymSt H₀ L) md ops z (fuel+1) listed R L ds k:=by
 simp only[takeOk,Bool.and_eq_true,Bool.not_eq_true'] at hc;obtain⟨⟨⟨⟨⟨hsel,hr⟩,hf⟩,hcl⟩,_⟩,_⟩:=hc;exact .take i hi hsel hr hf hd hn hnd hz hcl (fun _ _=> Iff.rfl) hw (fun _ _ _ H tmps hS hr=> by
   have:=hv H tmps hS hr;unfold OpVal at this ⊢;have fin:∀u H',(u=v∧H.le H')→u=v∧H.le H'∧SymSt H₀ L H':=fun u H' ⟨h1,h2⟩=> ⟨h1,h2,hS.mono h2⟩
   refine vwp_mono _ (fun nx H' hn=> ?_) this;cases nx <;> first
     | exact hn.elim
     | exact fin _ _ hn
     | exact CallT.mono hn fin
     | exact GoT.mono hn fin) h
theorem Tc.dl(z:Nat){id:Nat}{fuel:Nat}(hm:P.follows .mixedOrders=true)(hf:ops.size=fuel+1)(h:Tl M St n b H₀ cs (fun _=> SymSt H₀ L) .any ops z fuel (Array.replicate (fuel+1) false) R L ds k):
   Tc M St n b H₀ cs R L ds (.code (.region id ops true)::k):=fun H tmps hs hr=> by
 refine .region_draw fun t=> ?_;simp only[Region.schedule,hm,Bool.true_or,if_true];have h1:=(h H tmps hs hr hs).sound _ t _ _ _ hs;unfold Region.linearise;rw[hf];exact h1
end
end Go.RL
namespace Go.RL
open Go.Conc Go.ConcN Go.RL.Au
open Go.ConcR (stA smA mk)
open Go.ConcM (muA msA OsLater)
section
variable {P:Program}{X:Fk}{κ:Nat}
theorem OpP.makeFunc {n:Nat}{sh:Shp}{R:Rg}{o:Oper}{f:Fn}{first caps:Array Operand}{vs ws:List Value}(hop:o.op=.makeFunc f first caps)(h1:evRs R first.toList=some vs)(h2:evRs R caps.toList=some ws):OpP P sh n R o (.func f vs.toArray ws.toArray):=fun tmps hr=> by
 unfold execOp;rw[hop];show Next.value _=_;have e1:first.map (evT tmps)=vs.toArray:=by
   rw[←hr.evs h1,List.map_toArray.symm]
 have e2:caps.map (evT tmps)=ws.toArray:=by
   rw[←hr.evs h2,List.map_toArray.symm]
 rw[e1,e2]
theorem T.none {M:Md P}{St:View→Goroutine→Prop}{C:Nat}{H:View}{g:Goroutine}(hok:∀w,M.ok w→C<w.heap.size)(hph:∀H g Po,¬M.Ph H g Po)(h:T M St H g):H C=Option.none→T M (fun H' g'=> H' C=Option.none∧St H' g') H g:=
 h (fun H g=> H C=Option.none→T M (fun H' g'=> H' C=Option.none∧St H' g') H g) (fun _ _ hs hc=> .stop ⟨hc,hs⟩) (fun H g hs hc=> .step ⟨hs.1,fun w hw ho=> by
   obtain⟨g',w',es,H',h1,h2,h3⟩:=hs.2 w hw ho;refine⟨g',w',es,H',h1,h2,h3 ?_⟩;cases hx:H' C with
   | none=> rfl
   | some x=>
     obtain⟨f,o⟩:=x;rcases h2.ext _ _ _ hx with ⟨o',ho'⟩|⟨_,hle⟩
     · rw[hc] at ho';cases ho'
     · have:=hok w ho;omega⟩) (fun _ _ _ hp=> (hph _ _ _ hp).elim)
theorem T.none' {main:Bool}{St:View→Goroutine→Prop}{H:View}{g:Goroutine}(hc:H X.C=Option.none)(h:T (Mw P main X.ok) (fun H' g'=> H' X.C=Option.none→T (Mw P main X.ok) St H' g') H g):T (Mw P main X.ok) St H g:=
 (T.none (M:=Mw P main X.ok) (C:=X.C) (fun _ (h:X.ok _)=> h.1) (fun _ _ _ h=> h) h hc).bind fun _ _ ⟨h1,h2⟩=> h2 h1
theorem Sc.none {main:Bool}{St:View→Goroutine→Prop}{H:View}{n:Nat}{b:FB}{cs:List Frame}{R:Rg}{ds:List Deferred}{kk:List Item}(hc:H X.C=Option.none)
   (h:Sc (T (Mw P main X.ok) (fun H' g'=> H' X.C=Option.none→T (Mw P main X.ok) St H' g') H) n b cs R ds kk):Sc (T (Mw P main X.ok) St H) n b cs R ds kk:=fun tmps hr=> T.none' hc (h tmps hr)
theorem Sc.stopNone {main:Bool}{St:View→Goroutine→Prop}{H:View}{n:Nat}{b:FB}{cs:List Frame}{R:Rg}{ds:List Deferred}{kk:List Item}
   (h:H X.C=Option.none→Sc (T (Mw P main X.ok) St H) n b cs R ds kk):Sc (T (Mw P main X.ok) (fun H' g'=> H' X.C=Option.none→T (Mw P main X.ok) St H' g') H) n b cs R ds kk:=fun tmps hr=> .stop fun hc=> h hc tmps hr
theorem Sc.mono {J J':Goroutine→Prop}{n:Nat}{b:FB}{cs:List Frame}{R:Rg}{ds:List Deferred}{kk:List Item}(h:Sc J n b cs R ds kk)(hj:∀g,J g→J' g):Sc J' n b cs R ds kk:=fun tmps hr=> hj _ (h tmps hr)
end
end Go.RL
namespace Go.Proofs.YtdnfdeplcjaonaaGreatDoor
open Go.RL Go.Proofs.Tryz Go.Conc Go.ConcN Go.RL.Au
open Go.ConcR (stA smA)
set_option maxRecDepth 10000
set_option maxHeartbeats 4000000
def leftL(k:Bk)(D:Nat→Bool):List Value:=(List.range k.nt).map fun i=> .int .i64 (if D i then((k.left i:Nat):Int) else 0)
def GIl(k:Bk)(D:Nat→Bool)(o:Obj):Prop:=o=.cells ⟨leftL k D⟩ 3 (0,0)
theorem leftL_len(k:Bk)(D:Nat→Bool):(leftL k D).length=k.nt:=by simp[leftL]
theorem leftL_set(k:Bk)(D:Nat→Bool)(κ:Nat):(leftL k D).set κ (.int .i64 ((k.left κ:Nat):Int))=leftL k (also D κ):=by
 apply List.ext_getElem?
 intro i;unfold leftL also;rw[List.getElem?_set];by_cases e:κ=i
 · subst e;rw[if_pos rfl];by_cases h:κ<k.nt
   · rw[if_pos (by simpa using h),List.getElem?_map,List.getElem?_range h];simp
   · rw[if_neg (by simpa using h),List.getElem?_eq_none (by simp;omega)]
 · rw[if_neg e,List.getElem?_map,List.getElem?_map];by_cases h:i<k.nt
   · rw[List.getElem?_range h];have h2:¬i=κ:=fun h=> e h.symm;simp[h2]
   · rw[List.getElem?_eq_none (by simp;omega)];rfl
structure WkAt(X:Fk)(k:Bk)(H:View)(κ b5 b8 b6:Nat)(A:Option Addr)(lc:Nat)(B:Option Addr)(tc:Nat)(F:Nat→Option Addr)(fc:Nat→Nat):Prop where
 bk:BookAt H k A lc B tc F fc
 nl:k.nl≤1000
 nf:∀i,i<k.nl→k.nf i≤1000
 ok:k.trainsOk
 nt:k.nt≤6
 gap:0≤k.gap∧k.gap≤99
 give:0≤k.give∧k.give≤99
 h5:∃f,H b5=some (f,.cells ⟨(k.val A lc B tc).cells.toList⟩ 113 (0,0))
 h8:∃f,H b8=some (f,.cells ⟨[.int .i64 (κ:Nat)]⟩ 3 (0,0))
 h6:∃f,H b6=some (f,.cells ⟨[.slice (some ⟨X.C,0,none⟩) k.nt k.nt]⟩ 26 (0,0))
 kn:κ<k.nt
 GI:X.GI=GIl k
def wkVs(X:Fk)(b5 b8 b6:Nat):List Value:= [.pointer (some ⟨X.Wg,0,none⟩),.pointer (some ⟨b5,0,none⟩),.pointer (some ⟨b8,0,none⟩),.pointer (some ⟨b6,0,none⟩)]
section
variable {X:Fk}{bk:Bk}{H:View}{κ b5 b8 b6:Nat}{A:Option Addr}{lc:Nat}{B:Option Addr}{tc:Nat}{F:Nat→Option Addr}{fc:Nat→Nat}
theorem worker_c(w:WkAt X bk H κ b5 b8 b6 A lc B tc F fc)(k:Nat):
   Jw prog X κ k .pw H (Go.Conc.born prog { target:=.fn (.func 104) (wkVs X b5 b8 b6).toArray,args:=#[] }):=by
 obtain⟨hbk,hnl,hnf,hok,hnt,hgap,hgive,⟨f5,h5⟩,⟨f8,h8⟩,⟨f6,h6⟩,hκ,hGI⟩:=w;refine Cl.born (vs:=wkVs X b5 b8 b6) Jw.cl0 func104 (by kernel_rfl) rfl ntmps104 (Nat.le_of_ble_eq_true rfl) (by simp) ?_;unfold wkVs;refine .sq (.rg rfl rfl ?_);refine So.defer Jw.cl0 (f:=105) (vs:= [.pointer (some ⟨X.Wg,0,none⟩)]) rfl nofun rfl rfl ⟨_,rfl⟩ rfl ?_;refine .dn ?_;refine Sc.mono ?_ (fun g hg=> Jw.ofT rfl hg);refine Sc.ofTc (SymSt.nil H) ?_;refine Tc.dl 6 mixed rfl ?_;refine Tl.tk 0 (by kernel_rfl) (by kernel_rfl) rfl rfl (by decide) rfl rfl (OpV.take (OpV.load₀ (E:=en) rfl rfl h6 rfl rfl)) ?_;refine Tl.tk 1 (by kernel_rfl) (by kernel_rfl) rfl rfl (by decide) rfl rfl (OpV.take (OpV.load₀ (E:=en) rfl rfl h8 rfl rfl)) ?_;refine Tl.tk 2 (by kernel_rfl) (by kernel_rfl) rfl rfl (by decide) rfl rfl (OpV.take (OpV.load₀ (E:=en) rfl rfl h5 rfl rfl)) ?_;refine Tl.tk 3 (by kernel_rfl) (by kernel_rfl) rfl rfl (by decide) rfl rfl (OpV.take (OpV.load₀ (E:=en) rfl rfl h8 rfl rfl)) ?_;refine Tl.tk 4 (by kernel_rfl) (by kernel_rfl) rfl rfl (by decide) rfl rfl (OpV.takeCall rfl rfl rfl rfl (fun H hs=> .f ca106 rfl (left_c _ H bk A lc B tc F fc (hbk.le hs.base) hnl hnf hok hnt hgap hgive κ hκ))) ?_;refine Tl.tk 5 (by kernel_rfl) (by kernel_rfl) rfl rfl (by decide) rfl rfl (OpV.take .ia) ?_;refine Tl.done (by kernel_rfl) rfl ?_;refine To.ofSo (fun H1 hs=> ?_);refine So.mono ?_ (fun g hg=> Jw.toT rfl hg);have eoff:0+((κ:Nat):Int).toNat*1=κ:=by rw[Int.toNat_natCast];omega
 refine So.own (z:=((bk.left κ:Nat):Int)) (ik:=.i64) rfl rfl rfl ?_ rfl (by kernel_rfl) ?_ ?_
 · show some (Value.pointer (some ⟨X.C,0+((κ:Nat):Int).toNat*1,none⟩))=_;rw[eoff]
 · intro D o _ hGo;rw[hGI] at hGo ⊢;have hGo':o=.cells ⟨leftL bk D⟩ 3 (0,0):=hGo;subst hGo';refine⟨⟨leftL bk D⟩,3,rfl,by simp only[List.size_toArray,leftL_len];exact hκ,?_⟩;show Obj.cells _ 3 (0,0)=.cells ⟨leftL bk (also D κ)⟩ 3 (0,0);rw[←leftL_set];simp
 · exact fun k' _=> So.done Jw.cl0 (Sc.over Jw.cl0 rfl (done_d rfl (Sb.leaveD Jq.cl func104 rfl results104 (.inr rfl) Jq.bot)))
end
set_option maxHeartbeats 16000000
theorem ro_some {H:View}{b:Nat}{f:Bool}{o:Obj}(h:H b=some (f,o)):ro H b=some (false,o):=by simp[ro,h]
theorem ro_none {H:View}{b:Nat}(h:H b=none):ro H b=none:=by simp[ro,h]
def Keeps(H H':View):Prop:=∀b f o,H b=some (f,o)→∃f',H' b=some (f',o)
theorem src_of {H H':View}{sz m:Nat}{y:Value}{l:List Value}(h:SrcAt H sz y m l)(k:Keeps H H'):SrcAt H' sz y m l:=by
 obtain⟨h1,h2,h3⟩:=h;refine⟨h1,h2,h3.imp id ?_⟩;rintro⟨b,off,c,f,cs,e,fz,h4,h5,h6,h7⟩;obtain⟨f',h5'⟩:=k _ _ _ h5;exact⟨b,off,c,f',cs,e,fz,h4,h5',h6,h7⟩
theorem BookAt.of {H H':View}{k:Bk}{A:Option Addr}{lc:Nat}{B:Option Addr}{tc:Nat}{F:Nat→Option Addr}{fc:Nat→Nat}(h:BookAt H k A lc B tc F fc)(hk:Keeps H H'):BookAt H' k A lc B tc F fc:=
 ⟨h.hlc,h.htc,src_of h.rows hk,src_of h.trains hk,h.hfc,fun i hi=> src_of (h.free i hi) hk⟩
structure StAt(X:Fk)(k:Bk)(H:View)(b5 b6:Nat)(A:Option Addr)(lc:Nat)(B:Option Addr)(tc:Nat)(F:Nat→Option Addr)(fc:Nat→Nat):Prop where
 bk:BookAt H k A lc B tc F fc
 sm:k.small
 al:k.alarm=0
 n:X.n=k.nt
 h5:∃f,H b5=some (f,.cells ⟨(k.val A lc B tc).cells.toList⟩ 113 (0,0))
 h6:∃f,H b6=some (f,.cells ⟨[.slice (some ⟨X.C,0,none⟩) k.nt k.nt]⟩ 26 (0,0))
 C0:H X.C=none
 GI:X.GI=GIl k
theorem StAt.of {X:Fk}{k:Bk}{H H':View}{b5 b6:Nat}{A:Option Addr}{lc:Nat}{B:Option Addr}{tc:Nat}{F:Nat→Option Addr}{fc:Nat→Nat}(h:StAt X k H b5 b6 A lc B tc F fc)(hk:Keeps H H')(h0:H' X.C=none):StAt X k H' b5 b6 A lc B tc F fc:=
 ⟨h.bk.of hk,h.sm,h.al,h.n,let ⟨_,g⟩:=h.h5;hk _ _ _ g,let ⟨_,g⟩:=h.h6;hk _ _ _ g,h0,h.GI⟩
abbrev b33:FB:=⟨33,.normal,none⟩
noncomputable def L33:Code:=cR (cL (cR (cR (cR (cR (cR (bodyOf Tryz.f33)))))))
noncomputable def B33:Code:=cB (cB L33)
noncomputable def T33:Code:=cR (cR (cR (cR (cR (cR (bodyOf Tryz.f33))))))
section
variable {X:Fk}{k:Bk}{b1 b5 b6:Nat}{A:Option Addr}{lc:Nat}{B:Option Addr}{tc:Nat}{F:Nat→Option Addr}{fc:Nat→Nat}{Fin:Goroutine→Prop}{cs:List Frame}
def rgS(X:Fk)(k:Bk)(b1 b5 b6 j:Nat):Rg:= [(1,.pointer (some ⟨b1,0,none⟩)),(5,.pointer (some ⟨b5,0,none⟩)),(6,.pointer (some ⟨b6,0,none⟩)),(7,.pointer (some ⟨X.Wg,0,none⟩)),(24,.int .i64 (k.nt:Nat)),(25,.int .i64 (j:Nat))]
theorem start_loop(hfin:∀(R:Rg),AllIn (rgS X k b1 b5 b6 k.nt) R→∀κ (H:View),Sc (Jm prog X Fin κ .wd k.nt H) 50 b33 cs R [] [.code T33]):∀(d j κ:Nat) (H:View),j+d=k.nt→StAt X k H b5 b6 A lc B tc F fc→∀(R:Rg),AllIn (rgS X k b1 b5 b6 j) R→
   Sc (Jm prog X Fin κ (if j<X.n then .kd else .wd) j H) 50 b33 cs R [] [.code B33,.inLoop B33,.inBlock 0,.code T33]
 | 0,j,κ,H,hj,hst,R,hR=> by
   have e:j=k.nt:=by omega
   subst e;rw[if_neg (by rw[hst.n];omega)];refine Sc.drop hR ?_;unfold rgS;refine .sq (.rg rfl rfl ?_);refine .i ?_ (z:=lss_f (by omega));refine .dn ?_;refine Sc.seq Jm.cl (Sc.cond Jm.cl (t:=false) rfl (fun h=> nomatch h) (fun _=> ?_));refine .xt rfl ?_;exact hfin _ ⟨rfl,rfl,rfl,rfl,rfl,rfl,trivial⟩ κ H
 | d + 1,j,κ,H,hj,hst,R,hR=> by
   rw[if_pos (by rw[hst.n];omega)];refine Sc.drop hR ?_;unfold rgS;obtain⟨hg,hnl,hnt,hok⟩:=Bk.valid hst.al;refine .sq (.rg rfl rfl ?_);refine .i ?_ (z:=lss_t (by omega));refine .dn ?_;refine Sc.seq Jm.cl (Sc.cond Jm.cl (t:=true) rfl (fun _=> ?_) (fun h=> nomatch h));refine .sp (.sq (.bl (.sq ?_)));refine Sc.none hst.C0 ?_;refine Sc.ofTc (SymSt.nil H) ?_;refine .r ?_;refine .m ?_;refine .e (.al (zz:=fun b8=> ?_));refine .e (.st 0 (zz:=?_));refine .done ?_;refine Tc.ofSc (fun H1 hs=> Sc.stopNone (fun hC1=> ?_));have hst1:StAt X k H1 b5 b6 A lc B tc F fc:=hst.of (fun b f o h=> ⟨f,hs.base _ _ h⟩) hC1;have h8:=hs.get (i:=0) rfl;show Sc (Jm prog X Fin κ .kd j H1) 50 b33 cs _ [] _;refine .sq (.rg rfl rfl ?_);refine So.callD rfl rfl rfl nofun rfl (.mk' rfl) rfl (addone_c) ?_;rintro v J' ⟨rfl,κ',rfl⟩;refine .dn (.rg rfl rfl ?_);refine So.opD Jm.cl rfl rfl rfl rfl (OpP.makeFunc rfl rfl rfl) ?_;have hst2:StAt X k (ro H1) b5 b6 A lc B tc F fc:=hst1.of (fun b f o h=> ⟨false,ro_some h⟩) (ro_none hC1);refine Jm.go (f:=104) (fn:=#[]) (caps:=(wkVs X b5 b8 b6).toArray) rfl nofun rfl rfl rfl rfl rfl rfl rfl (fun k1 _=> ?_) (fun k1 _=> ?_)
   · refine .dn (.ib (.rg rfl rfl ?_));refine .i ?_ (z:=add_in (by omega) (by omega));refine .m ?_;refine .dn ?_;refine Sc.inLoop (by exact Jm.cl) ?_;exact start_loop hfin d (j+1) k1 (ro H1) (by omega) hst2 _ ⟨rfl,rfl,rfl,rfl,rfl,rfl,trivial⟩
   · exact worker_c ⟨hst2.bk,hst.sm.nl,fun i hi=> (hst.sm.num i hi).2,hok,hnt,by omega,by omega,hst2.h5,⟨false,ro_some h8⟩,hst2.h6,by omega,hst.GI⟩ k1
end
theorem Ph.of₁ {P:Program}{H:View}{g:Goroutine}{Po:View→Goroutine→Prop}(h:Ph₁ P H g Po):Ph P H g Po:=
 ⟨H,fun _=> none,Po,fun _ _ h=> (nomatch h),(by funext b;unfold View.plus;cases H b <;> rfl),h,fun H' g' _ hp=> by
   have e:H'.plus (fun _=> none)=H':=by funext b;unfold View.plus;cases H' b <;> rfl
   rwa [e]⟩
def View.beside(X:Fk)(H:View):View:=(H.without X.C).without X.Wg
theorem beside_none {X:Fk}{H:View}:View.beside X H X.Wg=none∧View.beside X H X.C=none:=by
 refine⟨?_,?_⟩ <;> unfold View.beside View.without <;> simp
theorem beside_some {X:Fk}{H:View}{b:Nat}(h1:b≠X.C)(h3:b≠X.Wg):View.beside X H b=H b:=by
 unfold View.beside;rw[without_other h3,without_other h1]
theorem Ph.begin {P:Program}{H:View}{g:Goroutine}{Po:View→Goroutine→Prop}(X:Fk)(Fin:Goroutine→Prop)(o:Obj)(hn:X.n≤6)(ne:X.Wg≠X.C)
   (hC:H X.C=some (true,o)) (hWg:H X.Wg=some (true,X.wgO ⟨0,0,0⟩)) (hGI:X.GI (fun _=> false) o)
   (hg:∀k,T (Mw P true X.ok) (MS P X Fin k (if 0<X.n then .kd else .wd) 0) (ro (View.beside X H)) g) (hPo:∀o' g',X.GI (fun i=> decide (i<X.n)) o'→Fin g'→Po ((View.beside X H).put X.C (true,o')) g'):Ph P H g Po:=by
 refine Ph.of₁ ⟨X,Fin,View.beside X H,o,hn,ne,beside_none,?_,hGI,hg,hPo⟩
 funext b
 by_cases e1:b=X.Wg
 · subst e1;rw[View.put_same,hWg]
 · rw[View.put_other _ _ e1];by_cases e3:b=X.C
   · subst e3;rw[View.put_same,hC]
   · rw[View.put_other _ _ e3,beside_some e3 e1]
theorem So.all {J:Obj→Goroutine→Prop}{p:Obj→Prop}{n:Nat}{b:FB}{cs:List Frame}{dl:List (Option Tmp)}{R:Rg}{ds:List Deferred}{l:List Oper}{kk:List Item}(h:∀o,p o→So (J o) n b cs dl R ds l kk):So (fun g=> ∀o,p o→J o g) n b cs dl R ds l kk:=
 fun arr ix ha hx tmps hr o ho=> h o ho arr ix ha hx tmps hr
def Bk.lookTo(k:Bk):Nat→Int×Int
 | 0=> (-1,(k.resL.length:Nat))
 | j+1=> if((k.left j:Nat):Int)<(k.lookTo j).2 then((j:Nat),((k.left j:Nat):Int)) else k.lookTo j
def Bk.look(k:Bk):Int×Int:=k.lookTo k.nt
def lookV(p:Int×Int):Value:=.tuple ⟨[.int .i64 p.1,.int .i64 p.2,.int .i64 0]⟩
section
theorem Look_c(H:View)(k:Bk)(A:Option Addr)(lc:Nat)(B:Option Addr)(tc:Nat)(F:Nat→Option Addr)(fc:Nat→Nat)(hB:BookAt H k A lc B tc F fc)(hn:k.small)(hG:Glob H)(ha:k.alarm=0):
   CallT (Mp prog) 33 #[k.val A lc B tc] H (fun v H'=> H.le H'∧v=lookV k.look):=by
 obtain⟨hgg,hnl,hnt,hok⟩:=Bk.valid ha;have hop:=fun(H':View) (h':H.le H')=> open_yes (Mp prog) H' k A lc B tc (hB.bk.le h') hn (glob_le hG h') ha;refine .en func33 ntmps33 fun St c cs hK=> ?_;refine .sr ?_;refine .e (.bx (zz:=fun b1=> ?_));refine .g ?_;refine .g ?_;refine .g ?_;refine .done (.sr ?_);refine .x (.ld 0) ?_;refine .c rfl rfl rfl rfl (fun H hs=> .f ca81 rfl (hop H hs.base)) ?_;refine .m ?_;refine .x .et ?_;refine .x .et ?_;refine .e (.al (zz:=fun b5=> ?_));refine .e (.st 0 (zz:=?_));refine .g ?_;refine .done (.seq (.sr ?_));refine .m ?_;refine .i ?_ (z:=neq_f (by omega));refine .done (.ff rfl (.skip (.sr ?_)));refine .x .fa ?_;refine .x (.ld 1) ?_;refine .x .ln ?_;refine .e (Or.makeSlice (E:=en) (len:=k.nt) (cap:=k.nt) rfl rfl rfl rfl rfl rfl (Nat.le_refl _) (by omega) rfl rfl (by decide) (fun bC=> ?_));refine .e (.al (zz:=fun b6=> ?_));refine .e (.st 0 (zz:=?_));refine .done (.sr ?_);refine .e (.al (zz:=fun b7=> ?_));refine .done (.seq (.sr ?_));refine .x (.ld 1) ?_;refine .x .ln ?_;refine .m ?_;refine .done ?_;refine Tc.ofSc (fun Hx hs tmps hr=> ?_);obtain⟨X,hX⟩:∃X:Fk,X=⟨k.nt,b7,bC,156,GIl k⟩:=⟨_,rfl⟩
 have x1:=hs.get (i:=0) rfl;have x2:=hs.get (i:=1) rfl;have x3:=hs.get (i:=2) rfl;have x4:=hs.get (i:=3) rfl;have x5:=hs.get (i:=4) rfl;have hnd: [b7,b6,bC,b5,b1].Nodup:=hs.nodup;simp only[List.nodup_cons,List.mem_cons,List.not_mem_nil,or_false,not_or,not_false_eq_true,List.nodup_nil,and_true] at hnd;obtain⟨⟨n1,n2,n3,n4⟩,⟨n5,n6,n7⟩,⟨n8,n9⟩,n10⟩:=hnd;have hout:∀y,y=bC∨y=b7→H y=none:=by
   rintro y (rfl|rfl)
   · exact hs.out _ (List.mem_cons_of_mem _ (List.mem_cons_of_mem _ List.mem_cons_self))
   · exact hs.out _ List.mem_cons_self
 have hle:H.le (View.beside X Hx):=fun b y hb=> by
   have e:∀z,z=bC∨z=b7→b≠z:=fun z hz e=> by subst e;rw[hout b hz] at hb;cases hb
   rw[beside_some (by subst hX;exact e _ (.inl rfl)) (by subst hX;exact e _ (.inr rfl))];exact hs.base _ _ hb
 have y5:View.beside X Hx b5=some (true,.cells ⟨(k.val A lc B tc).cells.toList⟩ 113 (0,0)):=by
   subst hX;rw[beside_some (by exact Ne.symm n8) (by exact Ne.symm n3)];exact x4
 have y6:View.beside X Hx b6=some (true,.cells ⟨[.slice (some ⟨bC,0,none⟩) k.nt k.nt]⟩ 26 (0,0)):=by
   subst hX;rw[beside_some n5 (by exact Ne.symm n1)];exact x2
 obtain⟨Fin,hF⟩:∃Fin:Goroutine→Prop,Fin=fun g=> ∀o',X.GI (fun i=> decide (i<X.n)) o'→T (Mp prog) St ((View.beside X Hx).put X.C (true,o')) g:=⟨_,rfl⟩
 have hcF:Cl prog true noSh Fin:=⟨fun g g' hs h hf=> by
   subst hF;exact fun o' ho=> .step ⟨hs,fun w hw hok=> ⟨g',w,#[],_,h w (fun _ _ e=> by cases e),.refl hw,hf o' ho⟩⟩⟩
 have hz:zeroRow [Value.int .i64 0] (k.nt*1)=leftL k (fun _=> false):=by
   rw[zeroRow_one,Nat.mul_one];unfold leftL;simp[List.map_const']
 refine T.phase (Po:=fun H' g'=> T (Mp prog) St H' g') (Ph.begin X Fin (.cells ⟨leftL k (fun _=> false)⟩ 3 (0,0)) (by subst hX;exact hnt) (by subst hX;exact n2) (by subst hX;rw[←hz];exact x3) (by subst hX;exact x1) (by subst hX;exact rfl) (fun κ=> ?_) (fun o' g' ho hg=> by subst hF;exact hg o' ho)) (fun H' g' h=> h);have hst:StAt X k (ro (View.beside X Hx)) b5 b6 A lc B tc F fc:=
   ⟨hB.of (fun b f o h=> ⟨false,ro_some (hle _ _ h)⟩),hn,ha,by subst hX;rfl,⟨false,ro_some y5⟩,by subst hX;exact⟨false,ro_some y6⟩,ro_none beside_none.2,by subst hX;rfl⟩
 have hfin:∀(R:Rg),AllIn (rgS X k b1 b5 b6 k.nt) R→∀κ (H:View),Sc (Jm prog X Fin κ .wd k.nt H) 50 b33 (c::cs) R [] [.code T33]:=by
   intro R hR κ Hk;refine Sc.drop hR ?_;unfold rgS;refine .sq (.rg rfl rfl ?_);refine So.callD rfl rfl rfl nofun rfl (.mk' rfl) rfl (wait_c hcF) ?_;rintro v J' ⟨rfl,rfl⟩;subst hF;refine So.all (fun o' ho'=> ?_);have hGI:X.GI=GIl k:=by subst hX;rfl
   rw[hGI] at ho';have ho2:o'=.cells ⟨leftL k (fun i=> decide (i<X.n))⟩ 3 (0,0):=ho';subst ho2;have hX2:X.n=k.nt:=by subst hX;rfl
   have z5:(View.beside X Hx).put X.C (true,.cells ⟨leftL k (fun i=> decide (i<X.n))⟩ 3 (0,0)) b5=some (true,.cells ⟨(k.val A lc B tc).cells.toList⟩ 113 (0,0)):=by
     rw[View.put_other _ _ (by subst hX;exact Ne.symm n8)];exact y5
   have z6:(View.beside X Hx).put X.C (true,.cells ⟨leftL k (fun i=> decide (i<X.n))⟩ 3 (0,0)) b6=some (true,.cells ⟨[.slice (some ⟨X.C,0,none⟩) k.nt k.nt]⟩ 26 (0,0)):=by
     rw[View.put_other _ _ (by subst hX;exact n5)];subst hX;exact y6
   have zC:(View.beside X Hx).put X.C (true,.cells ⟨leftL k (fun i=> decide (i<X.n))⟩ 3 (0,0)) X.C=some (true,.cells ⟨leftL k (fun i=> decide (i<X.n))⟩ 3 (0,0)):=View.put_same ..;have zle:H.le ((View.beside X Hx).put X.C (true,.cells ⟨leftL k (fun i=> decide (i<X.n))⟩ 3 (0,0))):=fun b y hb=> by
     rw[View.put_other _ _ (by rintro rfl;subst hX;rw[hout bC (.inl rfl)] at hb;cases hb)];exact hle _ _ hb
   generalize (View.beside X Hx).put X.C (true,.cells ⟨leftL k (fun i=> decide (i<X.n))⟩ 3 (0,0))=H2 at z5 z6 zC zle;refine So.ofTo (SymSt.nil H2) ?_;refine .done (.sr ?_);refine .x .l0 ?_;refine To.callF rfl rfl rfl rfl rfl rfl (by decide) (FnT.f ca94 rfl (results_c _ H2 k A lc B tc (hB.bk.le zle).rows hn.nl (hB.bk.le zle).trains hok hnt)) (fun v H₃ hv=> ?_);obtain⟨hle3,m,es,cl,rfl,⟨fm,q3⟩,q4⟩:=hv;have hsz:=Bk.res_size q4;have z6':=hle3 _ _ z6;have zC':=hle3 _ _ zC;refine .x (OpV.lenMap (E:=en) (es:=es) rfl rfl rfl rfl rfl (fun H hs=> ⟨fm,hs.base _ _ q3⟩) rfl rfl) ?_;refine .g ?_;refine .g ?_;refine .done ?_;rw[hsz];refine .seq (.sr ?_);refine .x .l0 ?_;refine .x .ln ?_;refine .m ?_;refine .done (.block ?_);refine Tc.db (Tc.loopInv (σ:= { j:Nat//j≤k.nt }) (fun j=> ([(2,.int .i64 (k.lookTo j.1).1),(3,.int .i64 (k.lookTo j.1).2),(35,.slice (some ⟨X.C,0,none⟩) k.nt k.nt),(36,.int .i64 (k.nt:Nat)),(37,.int .i64 (j.1:Nat))],[])) (fun j=> k.nt-j.1) ?_ ⟨0,Nat.zero_le _⟩);rintro⟨j,hj⟩ ih;show Tc (Mp prog) St _ _ _ _ [(2,.int .i64 (k.lookTo j).1),(3,.int .i64 (k.lookTo j).2),(35,.slice (some ⟨X.C,0,none⟩) k.nt k.nt),(36,.int .i64 (k.nt:Nat)),(37,.int .i64 (j:Nat))] [] _ _;by_cases c1:j=k.nt
   · subst c1;refine .sr ?_;refine .i ?_ (z:=lss_f (by omega));refine .done (.seq (.ff rfl (.exit rfl (.sr ?_))));refine .m ?_;refine .m ?_;refine .g ?_;refine .g ?_;refine .g ?_;refine .done ?_;refine .rt hK func33 results33 [_,_,_] ?_;exact fun H' hs=> ⟨View.le_trans zle (View.le_trans hle3 hs.base),rfl⟩
   · have c2:j<k.nt:=by omega
     have f1:ldL false 1 (leftL k (fun i=> decide (i<X.n))) (0+((j:Nat):Int).toNat*1)=some (.int .i64 ((k.left j:Nat):Int)):=by
       show _[_]? =_;rw[Nat.zero_add,Int.toNat_natCast,Nat.mul_one];unfold leftL;rw[List.getElem?_map,List.getElem?_range c2];simp[hX2,c2]
     by_cases c3:((k.left j:Nat):Int)<(k.lookTo j).2
     · have e:k.lookTo (j+1)=(((j:Nat):Int),((k.left j:Nat):Int)):=by rw[Bk.lookTo,if_pos c3]
       refine .sr ?_;refine .i ?_ (z:=lss_t (by omega));refine .done (.seq (.tt rfl (.skip (.seq (.block (.sr ?_))))));refine .m ?_;refine .x .ia ?_;refine .x .l0 ?_;refine .g ?_;refine .g ?_;refine .done (.sr ?_);refine .m ?_;refine .m ?_;refine .i ?_ (z:=lss_t (by omega));refine .done (.tt rfl (.r ?_));refine .m ?_;refine .m ?_;refine .g ?_;refine .g ?_;refine .done (.inBlock (.r ?_));refine .i ?_ (z:=add_in (by omega) (by omega));refine .m ?_;refine .done ?_;refine Tc.dropB (ih ⟨j+1,c2⟩ (by simp only;omega)) ?_ (by exact List.Sublist.refl _);simp only[e];exact⟨rfl,rfl,rfl,rfl,rfl,trivial⟩
     · have e:k.lookTo (j+1)=k.lookTo j:=by rw[Bk.lookTo,if_neg c3]
       refine .sr ?_;refine .i ?_ (z:=lss_t (by omega));refine .done (.seq (.tt rfl (.skip (.seq (.block (.sr ?_))))));refine .m ?_;refine .x .ia ?_;refine .x .l0 ?_;refine .g ?_;refine .g ?_;refine .done (.sr ?_);refine .m ?_;refine .m ?_;refine .i ?_ (z:=lss_f (by omega));refine .done (.ff rfl (.skip (.inBlock (.r ?_))));refine .i ?_ (z:=add_in (by omega) (by omega));refine .m ?_;refine .done ?_;refine Tc.dropB (ih ⟨j+1,c2⟩ (by simp only;omega)) ?_ (by exact List.Sublist.refl _);simp only[e];exact⟨rfl,rfl,rfl,rfl,rfl,trivial⟩
 refine Sc.block Jm.cl (Sc.loop Jm.cl ?_) tmps hr;have hgo:=start_loop hfin k.nt 0 κ (ro (View.beside X Hx)) (by omega) hst;subst hX;exact hgo _ (by unfold rgS;refine⟨rfl,?_⟩;refine⟨rfl,?_⟩;refine⟨rfl,?_⟩;refine⟨rfl,?_⟩;refine⟨rfl,?_⟩;refine⟨rfl,?_⟩;exact trivial)
end
end Go.Proofs.YtdnfdeplcjaonaaGreatDoor
namespace Go.Proofs.YtdnfdeplcjaonaaGreatDoor
open Go.RL Go.Proofs.Tryz
set_option maxRecDepth 10000
set_option maxHeartbeats 16000000
def Bk.heardL(k:Bk):List (List UInt8):=ascOf ((k.earsL k.nt).map (·.heard))
def wordsV(g:Gl 9 1)(a:Int):Value:=.tuple ⟨[g.val,.int .i64 a]⟩
theorem nodup_le {α:Type}:∀ {l m:List α},l.Nodup→(∀x∈l,x∈m)→l.length≤m.length
 | [],_,_,_=> Nat.zero_le _
 | x ::t,m,hn,hs=> by
   obtain⟨h1,h2⟩:=List.nodup_cons.1 hn;obtain⟨a,b,rfl⟩:=List.append_of_mem (hs x (List.mem_cons_self ..));have:=nodup_le (l:=t) (m:=a++b) h2 (fun y hy=> by
     have:=hs y (List.mem_cons_of_mem _ hy);rcases List.mem_append.1 this with h|h
     · exact List.mem_append_left _ h
     · rcases List.mem_cons.1 h with rfl|h
       · exact(h1 hy).elim
       · exact List.mem_append_right _ h)
   simp only[List.length_append,List.length_cons] at this ⊢;omega
theorem ears_size {k:Bk}{es:Array MapEntry}{cl n:Nat}(h:MapOk es cl (earF (k.earsS n))):es.size≤(k.earsL n).length:=by
 have hsub:∀x∈es.toList.map (·.key),x∈(k.earsL n).map Ear.val:=by
   intro x hx;obtain⟨e,he,rfl⟩:=List.mem_map.1 hx;obtain⟨y,h1,h2,_⟩:=earF_keys h e he;exact List.mem_map.2 ⟨y,(k.mem_earsL n y).2 h1,h2.symm⟩
 have:=nodup_le h.keys hsub;simpa using this
section
variable(M:Md prog)(H:View)
def trainsL(s:List UInt8)(p:Int):List Value:=s.flatMap fun x=> [.int .i64 (pn x:Nat),.int .i64 (pn x:Nat),.int .i64 p,.int .i64 p]
theorem Trains_no(s:List UInt8)(hs2:s.length≤1000)(p:Int)(h:isNum s=false∨¬(0≤p∧p≤99)):CallT M 69 #[strV s,.int .i64 p] H (fun v H'=> H.le H'∧v=.tuple ⟨[.slice none 0 0,.int .i64 (if isNum s=false then 3 else 1)]⟩):=by
 cases h1:isNum s with
 | false=>
   refine .en func69 ntmps69 fun St c cs hK=> ?_;refine U10 ?_;refine .c rfl rfl rfl rfl (fun H hs=> .h (isB (isNumber_c M H s (by omega)) h1)) ?_;refine U9 ?_;refine .rt hK func69 results69 [_,_] ?_;exact okB
 | true=>
   have h2:=h.resolve_left (by rw[h1];decide);refine .en func69 ntmps69 fun St c cs hK=> ?_;refine U10 ?_;refine .c rfl rfl rfl rfl (fun H hs=> .h (isB (isNumber_c M H s (by omega)) h1)) ?_;refine U7 ?_;refine .c rfl rfl rfl rfl (fun H hs=> .h (between_is M H p 0 99 false (decide_eq_false h2))) ?_;refine U9 ?_;refine .rt hK func69 results69 [_,_] ?_;exact okB
end
end Go.Proofs.YtdnfdeplcjaonaaGreatDoor
namespace Go.Proofs.YtdnfdeplcjaonaaGreatDoor
open Go.RL Go.Proofs.Tryz
set_option maxRecDepth 100000
theorem ex_heardD:bkD.heardL= [[49,50],[49,51]]:=by decide +kernel
theorem ex_heardE:bkE.heardL= [[49,49,50],[50,50]]:=by decide +kernel
theorem ex_clD:(bkD.claimOf 0=0∧bkD.claimOf 1=0∧bkD.claimOf 2=2)∧bkD.claimOf (-1)=2:=by decide +kernel
theorem ex_clE:(bkE.claimOf 0=2∧bkE.claimOf 1=2∧bkE.claimOf 2=0)∧bkE.claimOf (-1)=0:=by decide +kernel
theorem ex_in1:(firstTo (fun i=> !bkE.inAt (exAt [1,1,2]) (exAt [3,9,9]) i) 3).isSome=false∧bkE.earTo (exAt [1,1,2]) (exAt [3,9,9]) 3=⟨[50,50],0,false⟩∧bkE.line [50,50]=some 2:=by decide +kernel
theorem ex_in2:(firstTo (fun i=> !bkE.inAt (exAt [1,1,2]) (exAt [5,9,9]) i) 3).isSome=false∧bkE.earTo (exAt [1,1,2]) (exAt [5,9,9]) 3=⟨[49,49,50],0,false⟩∧bkE.line [49,49,50]=none:=by decide +kernel
theorem ex_look:bkD.look=(1,1):=by decide +kernel
theorem ex_setD:bkD.settled=none:=by decide +kernel
theorem ex_know:trainOk 2 2 6 6=true∧bkD.nowOk 1 2 2 6 6=true:=by decide +kernel
theorem ex_setO:bkO.settled=some (2,0):=by decide +kernel
theorem ex_taken:(bkD.takenAt 1 0=2∧bkD.takenAt 1 1=0)∧bkD.needTo 1 2=2:=by decide +kernel
theorem ex_slips:ascI (bkD.hits 0)= [1,2]:=by decide +kernel
theorem ex_safe3:bkD.safeV [51]=.tuple ⟨[.bool false,.int .i64 0]⟩:=by
 have h:isNum [51]=true∧bkD.clash [51]=false∧bkD.safe [51]=false:=by decide +kernel
 unfold Bk.safeV;rw[if_neg (by rw[bkD_al];decide),if_neg (by rw[h.1];decide),if_neg (by rw[h.2.1];decide),h.2.2]
theorem ex_safe5:bkD.safeV [53]=.tuple ⟨[.bool true,.int .i64 0]⟩:=by
 have h:isNum [53]=true∧bkD.clash [53]=false∧bkD.safe [53]=true:=by decide +kernel
 unfold Bk.safeV;rw[if_neg (by rw[bkD_al];decide),if_neg (by rw[h.1];decide),if_neg (by rw[h.2.1];decide),h.2.2]
theorem ex_spare:bkD.spareV 1 true=spare3 [48] true 0:=by
 have h:bkD.spare 1 true=some [48]:=by decide +kernel
 unfold Bk.spareV;rw[if_neg (by rw[bkD_al];decide),if_neg (by decide)];show(match bkD.spare 1 true with|some x=> spare3 x true 0|none=> spare3 [] false 0)=_;rw[h]
theorem ex_pulses:pulsesV [49,50,48]=.tuple ⟨[.int .i64 13,.int .i64 0]⟩:=by
 have h:isNum [49,50,48]=true∧takenN [49,50,48]=13:=by decide +kernel
 unfold pulsesV;rw[if_neg (by rw[h.1];decide),h.2];rfl
theorem ex_cheap:(canTo 2 2).length≤12∧(firstTo (fun j=> !weightOk (exAt [5,3,1] j)) 3).isSome=false∧(cheap (exAt [5,3,1]) 3 2 2).total=18∧(cheap (exAt [5,3,1]) 3 2 2).done=true∧(cheap (exAt [5,3,1]) 3 2 2).best= [[49],[50,49],[50,50]]:=by decide +kernel
theorem ex_follow1:bkE.followV 3 3 (exAt [1,1,2]) (exAt [3,9,9])=follow3 [50,50] 2 0:=by
 obtain⟨h1,h2,h3⟩:=ex_in1;unfold Bk.followV;rw[if_neg (by rw[bkE_al];decide),if_neg (by decide)];show(if(firstTo (fun i=> !bkE.inAt (exAt [1,1,2]) (exAt [3,9,9]) i) 3).isSome=true then _ else follow3 (bkE.earTo (exAt [1,1,2]) (exAt [3,9,9]) 3).heard (firstI (bkE.line (bkE.earTo (exAt [1,1,2]) (exAt [3,9,9]) 3).heard)) 0)=_;rw[h1,h2];simp only[Bool.false_eq_true,if_false];rw[h3];rfl
theorem ex_follow2:bkE.followV 3 3 (exAt [1,1,2]) (exAt [5,9,9])=follow3 [49,49,50] (-1) 0:=by
 obtain⟨h1,h2,h3⟩:=ex_in2;unfold Bk.followV;rw[if_neg (by rw[bkE_al];decide),if_neg (by decide)];show(if(firstTo (fun i=> !bkE.inAt (exAt [1,1,2]) (exAt [5,9,9]) i) 3).isSome=true then _ else follow3 (bkE.earTo (exAt [1,1,2]) (exAt [5,9,9]) 3).heard (firstI (bkE.line (bkE.earTo (exAt [1,1,2]) (exAt [5,9,9]) 3).heard)) 0)=_;rw[h1,h2];simp only[Bool.false_eq_true,if_false];rw[h3];rfl
set_option maxRecDepth 10000
set_option maxHeartbeats 16000000
theorem can_len {k:Bk}(hok:k.trainsOk){i:Nat}(hi:i<k.nt):(k.can i).length≤12:=by
 obtain⟨h1,h2,h3⟩:=k.train_in hok hi;have e:∀a b lo hi:Nat,(canL a b lo hi).length=(b+1-a)*(hi+1-lo):=fun a b lo hi=> by
   unfold canL upN;rw[List.length_flatMap];simp only[List.length_map,List.length_range',List.map_const',List.sum_replicate_nat]
 unfold Bk.can;rw[e];have h4:=k.kind_le (k.qt i);have m1:(k.pt i).toNat+1-(k.pf i).toNat≤4:=by omega
 have m2:k.kind (k.qt i)+1-k.kind (k.qf i)≤3:=by omega
 exact Nat.mul_le_mul m1 m2
theorem ears_count {k:Bk}(ha:k.alarm=0):(k.earsL k.nt).length≤12 ^ 6:=by
 obtain⟨_,_,hnt,hok⟩:=Bk.valid ha;have h:∀n,n≤k.nt→(k.earsL n).length≤12 ^ n:=by
   intro n;induction n with
   | zero=> intro _;exact Nat.le_refl _
   | succ n ih=>
     intro hn;unfold Bk.earsL;rw[List.length_flatMap];have h1:∀l:List Ear,(l.map fun e=> ((k.can n).map fun x=> e.hear x.1 x.2).length).sum≤l.length*12:=by
       intro l;induction l with
       | nil=> exact Nat.le_refl _
       | cons e t iht=>
         have:=can_len hok (i:=n) (by omega);simp only[List.map_cons,List.sum_cons,List.length_map,List.length_cons] at iht ⊢;omega
     have h2:=h1 (k.earsL n);have h3:=ih (by omega);rw[Nat.pow_succ];omega
 exact Nat.le_trans (h k.nt (Nat.le_refl _)) (Nat.pow_le_pow_right (by decide) hnt)
section
variable(M:Md prog)(H:View)
theorem HeardG_c(k:Bk)(A:Option Addr)(lc:Nat)(B:Option Addr)(tc:Nat)(hk:BkAt H k A lc B tc)(hn:k.small)(hG:Glob H)(ha:k.alarm=0):
   CallT M 23 #[k.val A lc B tc] H (fun v H'=> H.le H'∧∃g:Gl 9 1,v=wordsV g 0∧(g.n=k.heardL.length∧g.l=strsV k.heardL)∧∀x∈g.bl,H' x.1=some x.2∧H x.1=none):=by
 obtain⟨_,hnl,hnt,hok⟩:=Bk.valid ha;have h12:=ears_count ha;have hop:=fun(H':View) (h':H.le H')=> open_yes M H' k A lc B tc (hk.le h') hn (glob_le hG h') ha;refine .en func23 ntmps23 fun St c cs hK=> ?_;refine U2 ?_;refine .bo fun b1=> ?_;refine U6 ?_;refine .c rfl rfl rfl rfl (fun H hs=> .h (hop H hs.base)) ?_;refine U3 ?_;refine .al fun b4=> ?_;refine U22 ?_;refine To.callF rfl rfl rfl rfl rfl rfl (by decide) (FnT.h (ears_c M H k A lc B tc hk.trains hok hnt k.nt (Nat.le_refl _))) (fun v H₂ hv=> ?_);obtain⟨hle,m,es,cl,rfl,⟨fm,q3⟩,q4⟩:=hv;have hsz:=ears_size q4;refine .e (Or.range (E:=en) (es:=es) (cl:=cl) rfl rfl (fun H hs=> ⟨fm,hs.base _ _ q3⟩) rfl rfl rfl (by decide) (fun it=> ?_));refine U2 ?_;refine Tc.db (Tc.loopInv (σ:= { s:Array Nat×List (List UInt8)×Gl 9 1//s.2.2.l=strsV s.2.1∧(unseen es s.1).length+s.2.1.length=es.size∧∀x,x∈(k.earsL k.nt).map (·.heard)↔(x∈s.2.1∨∃me∈unseen es s.1,∃e:Ear,me.key=e.val∧x=e.heard) })
   (fun s=> ([(1,.pointer (some ⟨b1,0,none⟩)),(4,.pointer (some ⟨b4,0,none⟩)),(6,s.1.2.2.val),(21,.pointer (some ⟨it,0,none⟩))],[(it,true,.mapIter (some m) cl s.1.1 cl),(b4,true,.cells ⟨(k.val A lc B tc).cells.toList⟩ 113 (0,0)),(b1,true,.cells ⟨(k.val A lc B tc).cells.toList⟩ 25 (0,0))]++s.1.2.2.bl)) (fun s=> (unseen es s.1.1).length) ?_ ⟨(#[],[],Gl.nil 9 1),rfl,by rw[unseen_start];simp,fun x=> by
     rw[unseen_start,List.mem_map];constructor
     · rintro⟨e,he,rfl⟩;obtain⟨me,h1,h2,_⟩:=(q4.mem e.val (.bool true)).1 ⟨e,(k.mem_earsL _ e).1 he,rfl,rfl⟩;exact .inr ⟨me,h1,e,h2,rfl⟩
     · rintro(h|⟨me,h1,e,h2,rfl⟩)
       · cases h
       · obtain⟨y,h3,h4,_⟩:=earF_keys q4 me h1;rw[ear_inj (h2.symm.trans h4)];exact⟨y,(k.mem_earsL _ y).2 h3,rfl⟩⟩)
 rintro⟨⟨seen,dn,g⟩,p2,p3,p4⟩ ih;simp only at p2 p3 p4;show Tc M St _ _ H₂ _ [(1,.pointer (some ⟨b1,0,none⟩)),(4,.pointer (some ⟨b4,0,none⟩)),(6,g.val),(21,.pointer (some ⟨it,0,none⟩))] ([(it,true,.mapIter (some m) cl seen cl),(b4,true,.cells ⟨(k.val A lc B tc).cells.toList⟩ 113 (0,0)),(b1,true,.cells ⟨(k.val A lc B tc).cells.toList⟩ 25 (0,0))]++g.bl) _ _;have hgn:g.n=dn.length:=by have:=g.hl;rw[p2,strsV_len] at this;omega
 refine U2 ?_;refine .e (Or.next (es:=es) 0 rfl rfl rfl (fun H hs=> ⟨fm,hs.base _ _ q3⟩) q4.lt rfl (by decide) (fun me he hse=> ?_) (fun hall=> ?_))
 · have hp :=unseen_next q4.borns he hse;obtain⟨e0,u1,u2,_⟩:=earF_keys q4 me he;have hfind:=earF_find q4 he;have hpl:=hp.length_eq;rw[List.length_cons] at hpl;refine U8 ?_;refine .e (Or.entry (es:=es) (e:=me) (st:=me.born) rfl rfl (fun H hs=> ⟨true,hs.get (i:=0) rfl⟩) (fun H hs=> ⟨fm,hs.base _ _ q3⟩) (by simp) hfind rfl (by decide) ?_);rw[u2];refine U ?_;refine .al fun b7=> ?_;refine U6 ?_;refine .e (.bs (zz:=fun bs=> ?_));refine .e (Or.append (E:=en) 5 rfl rfl rfl rfl rfl rfl rfl rfl rfl rfl rfl rfl rfl rfl rfl (fun H hs=> SrcAt.of (hs.get (i:=0) rfl) (Nat.le_of_ble_eq_true rfl)) rfl (by omega) rfl (by decide) (fun g' hn2 hl2=> ?_));refine U3 ?_;exact Tc.db (ih ⟨(seen.push me.born,dn++[e0.heard],g'),by simp only;rw[hl2,p2,strsV_app];rfl,by simp only;rw[List.length_append,List.length_singleton];omega,fun x=> by
     rw[p4 x,List.mem_append,List.mem_singleton];constructor
     · rintro(h|⟨me',h1,e',h2,h5⟩)
       · exact .inl (.inl h)
       · rcases List.mem_cons.1 (hp.mem_iff.1 h1) with rfl|h6
         · rw[ear_inj (h2.symm.trans u2)] at h5;exact .inl (.inr h5)
         · exact .inr ⟨me',h6,e',h2,h5⟩
     · rintro((h|h)|⟨me',h6,h7⟩)
       · exact .inl h
       · exact .inr ⟨me,hp.mem_iff.2 (List.mem_cons_self ..),e0,u2,h⟩
       · exact .inr ⟨me',hp.mem_iff.2 (List.mem_cons_of_mem _ h6),h7⟩⟩ (by simp only;omega))
 · have hnil:=unseen_done hall;rw[hnil] at p3 p4;simp only[List.not_mem_nil,false_and,exists_false,or_false] at p4;rw[List.length_nil,Nat.zero_add] at p3;have hheard:k.heardL=ascOf dn:=ascOf_congr p4;refine U8 ?_;refine .e (Or.sortGG (dec:=decS dn) (L1:= [(it,true,.mapIter (some m) cl seen cl),(b4,true,.cells ⟨(k.val A lc B tc).cells.toList⟩ 113 (0,0)),(b1,true,.cells ⟨(k.val A lc B tc).cells.toList⟩ 25 (0,0))]) g (codesS dn) (p2.trans (strsL_codes _).symm) (codes_enc _) (by omega) rfl rfl rfl rfl rfl (by decide) (fun H Q h=> .h h) (fun g' mm hv' hn' hb' hl' ht hs'=> ?_));rw[←hv'];rw[hgn] at ht hs' hn';have hfin:(ddTo mm dn.length).map (decS dn)=k.heardL:=by rw[hheard];exact codes_asc rfl ht hs'
   have hE':=(codes_enc dn).turned ht;refine U4 ?_;refine .e (Or.compSGl (dec:=decS dn) (L1:= [(it,true,.mapIter (some m) cl seen cl),(b4,true,.cells ⟨(k.val A lc B tc).cells.toList⟩ 113 (0,0)),(b1,true,.cells ⟨(k.val A lc B tc).cells.toList⟩ 25 (0,0))]) g' mm hl' hE' (by omega) rfl rfl rfl rfl rfl (by decide) (fun H Q h=> .h h) (fun g2 hn3 hl3=> ?_));rw[hn'] at hn3 hl3;have hl4:g2.l=strsV k.heardL:=by rw[hl3,strsL_map,hfin];rfl
   have hn4:g2.n=k.heardL.length:=by rw[hn3,←hfin,List.length_map]
   refine U3 ?_;refine .rt hK func23 results23 [_,_] ?_;exact fun H' hs=> ⟨View.le_trans hle hs.base,g2,rfl,⟨hn4,hl4⟩,fun x hx=> ⟨hs.at_ x (by simp[hx]),none_le hle (hs.out x (by simp[hx]))⟩⟩
end
end Go.Proofs.YtdnfdeplcjaonaaGreatDoor
namespace Go.RL
open Go.Conc
section
variable {P:Program}{M:Md P}{St:View→Goroutine→Prop}{n:Nat}{b:FB}{H₀:View}{cs:List Frame}{R:Rg}{L:Bl}{ds:List Deferred}{k:List Item}{md:Region.Mode}{ops:Array Oper}
theorem Ta.callL2(i j:Nat){B:List Nat}{Hs:View}{Ls Lb:Bl}{o:Oper}{d:Nat}{fuel:Nat}{listed:Array Bool}{cl:Go.Call}{x:Operand}{fv:Value}{az:List Value}(hr:Region.ready md ops listed= [i,j])(hi:ops[i]? =some o)
   (hw:wantB (ops.toList.map (fun o:Oper=> o.dst)) R o=some true) (hop:o.op=.call cl) (hcl:cl.callee=.value x) (hx:evR R x=some fv) (has:evRs R cl.args.toList=some az) (hd:o.dst=some d) (hn:d<n)
   {Q:Value→View→Prop} (hc:FnT M fv az H₀ Q) (hle:∀v H₁,Q v H₁→Hs.le H₁) (h1:Ls.Sublist L) (h2:(B.all fun j=> !((listed.setIfInBounds i true).getD j true))=false∨Lb.Sublist L)
   (hk:∀v H₁,Q v H₁→Ta M St n b H₁ cs (S2 Hs B Ls Lb) md ops fuel (listed.setIfInBounds i true) ((d,v)::R) L ds k)
   (hj:TaOp M St n b H₀ cs (S2 Hs B Ls Lb) md ops fuel listed R L ds k j):
   Ta M St n b H₀ cs (S2 Hs B Ls Lb) md ops (fuel+1) listed R L ds k:=fun H tmps hs hr' _ H₂ h2' _=> by
 have hs:=hs.mono h2';refine⟨fun e=> (by rw[hr] at e;cases e),fun j' hj' o' ho'=> ?_⟩;rw[hr] at hj';have hcase:j'=i∨j'=j:=by simpa using hj'
 rcases hcase with rfl|rfl
 · rw[hi] at ho';cases ho'
   refine⟨(by rw[hop];rfl),?_⟩;have hw':Region.wanted o (yielded ops tmps)=true:=wantB_ok (fun j=> by
     simp only[List.getElem?_map,Array.getElem?_toList];cases ops[j]? <;> rfl) hr' hw
   rw[if_pos hw'];obtain⟨F,rfl,hdj,hF⟩:=hs.split;have e1:=hr'.ev hx;have hmap:cl.args.map (evT tmps)=az.toArray:=by
     apply Array.ext'
     simpa using hr'.evs has
   have hex:execOp (evT tmps) o=(Deferred.ofValue fv az.toArray).bind fun d=> invoke d.target d.args:=by
     have h1:execOp (evT tmps) o=(resolve (evT tmps) cl o.type).bind fun d=> invoke d.target d.args:=by unfold execOp;rw[hop];rfl
     rw[h1];unfold resolve;rw[hcl];simp only[e1,hmap]
   unfold OpRun;rw[hex];have fin:∀v H'',Beside F Q v H''→S2 Hs B Ls Lb (listed.setIfInBounds j' true) H''∧AnyT M md ops (S2 Hs B Ls Lb) (fun tmps H=> T M St H (G (b.at tmps ds k) cs)) fuel (listed.setIfInBounds j' true) (putT tmps o.dst v) H'':=by
     rintro v H'' ⟨H₁,rfl,hd',hq⟩;have hsy:SymSt H₁ L (H₁.plus F):=.joined hs.nodup hF hd';have hS:S2 Hs B Ls Lb (listed.setIfInBounds j' true) (H₁.plus F):=S2.mkL (hle v H₁ hq) h1 h2 _ hsy;refine⟨hS,?_⟩;rw[hd];exact hk v H₁ hq _ _ hsy (hr'.put hn v) hS
   refine vwp_mono _ (fun nx H' hn'=> ?_) (hc.frame hdj);cases nx <;> first
     | exact hn'.elim
     | exact CallT.mono hn' fin
     | exact GoT.mono hn' fin
 · obtain⟨o2,ho2,hd2,hw2,h'⟩:=hj;rw[ho'] at ho2;cases ho2
   refine⟨hd2,?_⟩;have hw':Region.wanted o' (yielded ops tmps)=true:=wantB_ok (fun j=> by
     simp only[List.getElem?_map,Array.getElem?_toList];cases ops[j]? <;> rfl) hr' hw2
   rw[if_pos hw'];refine(h' H₂ tmps hs hr').mono ?_;rintro t H' ⟨R',L',h1,h2,h3,h4⟩;exact⟨h3 H' h2,h4 H' t h2 h1 (h3 H' h2)⟩
theorem Tc.viaB {x:Item}(F:View→Rg→Bl→Prop)(hF:∀H R L,F H R L→Tc M St n b H cs R L ds k)(h:(∀H R L,F H R L→Tc M St n b H cs R L ds k)→Tc M St n b H₀ cs R L ds (x::k)):Tc M St n b H₀ cs R L ds (x::k):=h hF
end
end Go.RL
namespace Go.Proofs.YtdnfdeplcjaonaaGreatDoor
open Go.RL Go.Proofs.Tryz
set_option maxRecDepth 10000
set_option maxHeartbeats 32000000
theorem strs_lit {H:View}{b:Nat}{f:Bool}{gt:TypeId}{gz:Nat×Nat}(m:List (List UInt8))(h:H b=some (f,.cells ⟨strsV m⟩ gt gz)):StrsAt H (some ⟨b,0,none⟩) m.length (fun j=> m[j]?.getD []):=
 .inr ⟨b,0,f,_,gt,gz,rfl,h,fun j hj=> by
   show(strsV m)[_]? =_;rw[Nat.zero_add,Int.toNat_natCast,Nat.mul_one];unfold strsV;rw[List.getElem?_map];simp only[List.getElem?_eq_getElem hj];rfl⟩
theorem words_true(l:List (List UInt8)){n:Nat}(hn:n=l.length):(decide (n=l.length)&&allB (fun i=> decide ((fun j=> l[j]?.getD []) i=(fun j=> l[j]?.getD []) i)) n)=true:=by
 rw[decide_eq_true hn,(allB_iff n).2 (fun i _=> decide_eq_true rfl)];rfl
theorem ints_lit {H:View}{b:Nat}{f:Bool}{gt:TypeId}{gz:Nat×Nat}(m:List Int)(h:H b=some (f,.cells ⟨intsL m⟩ gt gz)):FreeAt H (some ⟨b,0,none⟩) m.length (exAt m):=
 .inr ⟨b,0,f,_,gt,gz,rfl,h,fun j hj=> by
   show(intsL m)[_]? =_;rw[Nat.zero_add,Int.toNat_natCast,Nat.mul_one];unfold intsL exAt;rw[List.getElem?_map];simp only[List.getElem?_eq_getElem hj];rfl⟩
theorem cl_at {e:TypeId}(g:Gl e 1){H:View}(h:∀x∈g.bl,H x.1=some x.2){f:Nat→Int}{n:Nat}(hl:g.l=clL f n)(hn:g.n=n):FreeAt H (g.blk.map fun b=> ⟨b,0,none⟩) n f:=by
 cases hb:g.blk with
 | none=>
   have:=g.h0 hb;have:=g.hc;exact .inl (by omega)
 | some b=>
   have hbl:g.bl= [(b,true,.cells ⟨g.l++g.junk⟩ e (0,0))]:=by unfold Gl.bl;rw[hb]
   refine .inr ⟨b,0,true,_,e,(0,0),rfl,h (b,true,.cells ⟨g.l++g.junk⟩ e (0,0)) (by rw[hbl];simp),fun j hj=> ?_⟩;show(g.l++g.junk)[_]? =_;rw[Nat.zero_add,Int.toNat_natCast,Nat.mul_one,List.getElem?_append_left (by rw[hl,clL_len];exact hj),hl];unfold clL;rw[List.getElem?_map,List.getElem?_range hj];rfl
theorem clL_ints(m:List Int):intsL m=clL (exAt m) m.length:=by
 apply List.ext_getElem?
 intro i;unfold intsL clL exAt;rw[List.getElem?_map,List.getElem?_map];by_cases h:i<m.length
 · rw[List.getElem?_range h,List.getElem?_eq_getElem h];simp[h]
 · rw[List.getElem?_eq_none (by omega),List.getElem?_eq_none (by simp;omega)];rfl
theorem three {p:Nat→Prop}(h0:p 0)(h1:p 1)(h2:p 2):∀i,i<3→p i:=fun i hi=> by
 rcases(by omega:i=0∨i=1∨i=2) with rfl|rfl|rfl
 · exact h0
 · exact h1
 · exact h2
theorem two {p:Nat→Prop}(h0:p 0)(h1:p 1):∀i,i<2→p i:=fun i hi=> by
 rcases(by omega:i=0∨i=1) with rfl|rfl
 · exact h0
 · exact h1
theorem strs_src {H:View}{a:Option Addr}{n c:Nat}{l:List (List UInt8)}(h:SrcAt H 1 (.slice a n c) n (strsV l))(hn:n=l.length):StrsAt H a n (fun j=> l[j]?.getD []):=by
 obtain⟨_,_,⟨_,_,h1,h2⟩|⟨b,off,c',f,cs,e,fz,h1,h2,h3,h4⟩⟩:=h
 · have:l= []:=by simpa [strsV] using h2
   exact .inl (by rw[hn,this];rfl)
 · simp only[Value.slice.injEq] at h1;refine .inr ⟨b,off,f,cs,e,fz,h1.1,h2,fun j hj=> ?_⟩;show cs[_]? =_;have hjl:j<l.length:=by omega
   have h5:=congrArg (fun x=> x[j]?) h4;simp only[List.getElem?_take,List.getElem?_drop] at h5;rw[if_pos (by rw[strsV_len];exact hjl)] at h5;rw[Int.toNat_natCast,Nat.mul_one,h5];unfold strsV;rw[List.getElem?_map];simp only[List.getElem?_eq_getElem hjl];rfl
theorem To.permL2 {P:Program}{M:Md P}{St:View→Goroutine→Prop}{n:Nat}{b:FB}{H₀:View}{cs:List Frame}{R:Rg}{L L₁:Bl}{ds:List Deferred}{k:List Item}{dl:List (Option Tmp)}{l:List Oper}(p:L₁.Perm L)(h:To M St n b H₀ cs dl R L₁ ds l k):To M St n b H₀ cs dl R L ds l k:=To.perm p h
theorem lives_c(H:View)(hG:Glob H):CallT (Mp prog) 18 #[] H (fun v H'=> H.le H'∧v=.bool true):=by
 have sD:bkD.small:=ex_small rfl (by decide) rfl rfl;have sE:bkE.small:=ex_small rfl (by decide) rfl rfl;have sO:bkO.small:=ex_small rfl (by decide) rfl rfl;refine .en func18 ntmps18 fun St c cs hK=> ?_;refine U6 ?_;refine To.callF rfl rfl rfl rfl rfl rfl (by decide) (FnT.h (Example_c _ H)) (fun v H1 hv=> ?_);obtain⟨tl1,dA,dlc,dB,dtc,dF,dfc,rfl,hD1⟩:=hv;refine To.callF rfl rfl rfl rfl rfl rfl (by decide) (FnT.h (joined_c _ H1)) (fun v H2 hv=> ?_);obtain⟨le2,eA,elc,eB,etc,eF,efc,rfl,hE2⟩:=hv;have tl2:=View.le_trans tl1 le2;have hD2:=hD1.le le2;have hG2:=glob_le hG tl2;refine .al fun b1=> ?_;refine .al fun b2=> ?_;refine U4 ?_;refine Tc.db (R':= [(1,.pointer (some ⟨b1,0,none⟩)),(2,.pointer (some ⟨b2,0,none⟩))]) (L':= [(b2,true,.cells ⟨(bkE.val eA elc eB etc).cells.toList⟩ 25 (0,0)),(b1,true,.cells ⟨(bkD.val dA dlc dB dtc).cells.toList⟩ 25 (0,0))]) ?_;refine U2 ?_;refine To.callF rfl rfl rfl rfl rfl rfl (by decide) (FnT.h (HeardG_c _ H2 bkD dA dlc dB dtc hD2.bk sD hG2 bkD_al)) (fun v H3 hv=> ?_);obtain⟨le3,g3,rfl,⟨ng3,lg3⟩,mg3⟩:=hv;rw[ex_heardD] at ng3 lg3;refine U6 ?_;have tl3:=View.le_trans tl2 le3;have hD3:=hD2.le le3;have hE3:=hE2.le le3;have hG3:=glob_le hG tl3;refine U ?_;refine Tc.db (R':= [(1,.pointer (some ⟨b1,0,none⟩)),(2,.pointer (some ⟨b2,0,none⟩)),(3,g3.val),(4,.int .i64 0)]) (L':= [(b2,true,.cells ⟨(bkE.val eA elc eB etc).cells.toList⟩ 25 (0,0)),(b1,true,.cells ⟨(bkD.val dA dlc dB dtc).cells.toList⟩ 25 (0,0))]) ?_;refine U2 ?_;refine To.callF rfl rfl rfl rfl rfl rfl (by decide) (FnT.h (Reaches_c _ H3 bkD dA dlc dB dtc hD3.bk sD hG3 bkD_al)) (fun v H4 hv=> ?_);obtain⟨le4,g5,rfl,⟨ng5,lg5⟩,mg5⟩:=hv;rw[ex_clD.2];refine U8 ?_;have tl4:=View.le_trans tl3 le4;have hD4:=hD3.le le4;have hE4:=hE3.le le4;have hG4:=glob_le hG tl4;refine U ?_;refine Tc.db (R':= [(1,.pointer (some ⟨b1,0,none⟩)),(2,.pointer (some ⟨b2,0,none⟩)),(3,g3.val),(4,.int .i64 0),(5,g5.val),(6,.int .i64 2),(7,.int .i64 0)]) (L':= [(b2,true,.cells ⟨(bkE.val eA elc eB etc).cells.toList⟩ 25 (0,0)),(b1,true,.cells ⟨(bkD.val dA dlc dB dtc).cells.toList⟩ 25 (0,0))]) ?_;refine U2 ?_;refine To.callF rfl rfl rfl rfl rfl rfl (by decide) (FnT.h (HeardG_c _ H4 bkE eA elc eB etc hE4.bk sE hG4 bkE_al)) (fun v H5 hv=> ?_);obtain⟨le5,g8,rfl,⟨ng8,lg8⟩,mg8⟩:=hv;rw[ex_heardE] at ng8 lg8;refine U6 ?_;have tl5:=View.le_trans tl4 le5;have hD5:=hD4.le le5;have hE5:=hE4.le le5;have hG5:=glob_le hG tl5;refine U ?_;refine Tc.db (R':= [(1,.pointer (some ⟨b1,0,none⟩)),(2,.pointer (some ⟨b2,0,none⟩)),(3,g3.val),(4,.int .i64 0),(5,g5.val),(6,.int .i64 2),(7,.int .i64 0),(8,g8.val),(9,.int .i64 0)]) (L':= [(b2,true,.cells ⟨(bkE.val eA elc eB etc).cells.toList⟩ 25 (0,0)),(b1,true,.cells ⟨(bkD.val dA dlc dB dtc).cells.toList⟩ 25 (0,0))]) ?_;refine U2 ?_;refine To.callF rfl rfl rfl rfl rfl rfl (by decide) (FnT.h (Reaches_c _ H5 bkE eA elc eB etc hE5.bk sE hG5 bkE_al)) (fun v H6 hv=> ?_);obtain⟨le6,g10,rfl,⟨ng10,lg10⟩,mg10⟩:=hv;rw[ex_clE.2];refine U8 ?_;have tl6:=View.le_trans tl5 le6;have hD6:=hD5.le le6;have hE6:=hE5.le le6;have hG6:=glob_le hG tl6;refine U ?_;refine Tc.db (R':= [(1,.pointer (some ⟨b1,0,none⟩)),(2,.pointer (some ⟨b2,0,none⟩)),(3,g3.val),(4,.int .i64 0),(5,g5.val),(6,.int .i64 2),(7,.int .i64 0),(8,g8.val),(9,.int .i64 0),(10,g10.val),(11,.int .i64 0),(12,.int .i64 0)]) (L':= [(b2,true,.cells ⟨(bkE.val eA elc eB etc).cells.toList⟩ 25 (0,0)),(b1,true,.cells ⟨(bkD.val dA dlc dB dtc).cells.toList⟩ 25 (0,0))]) ?_;have fl6:=fun(H':View) (p1 p2:Nat) (h':H6.le H') (k1:H' p1=some (true,.cells ⟨intsL [1,1,2]⟩ 3 (0,0))) (k2:H' p2=some (true,.cells ⟨intsL [3,9,9]⟩ 3 (0,0)))=> isV (Follow_c (Mp prog) H' bkE eA elc eB etc (hE6.bk.le h') sE (glob_le hG6 h') (some ⟨p1,0,none⟩) (some ⟨p2,0,none⟩) 3 3 3 3 (exAt [1,1,2]) (exAt [3,9,9]) (ints_lit [1,1,2] k1) (ints_lit [3,9,9] k2)) ex_follow1;refine U2 ?_;refine .e (.bs (zz:=fun p1=> ?_));refine .e (.bs (zz:=fun p2=> ?_));refine .c rfl rfl rfl rfl (fun H hs=> .h (fl6 H p1 p2 hs.base (hs.get (i:=1) rfl) (hs.get (i:=0) rfl))) ?_;refine U9 ?_;refine Tc.db (R':= [(1,.pointer (some ⟨b1,0,none⟩)),(2,.pointer (some ⟨b2,0,none⟩)),(3,g3.val),(4,.int .i64 0),(5,g5.val),(6,.int .i64 2),(7,.int .i64 0),(8,g8.val),(9,.int .i64 0),(10,g10.val),(11,.int .i64 0),(12,.int .i64 0),(13,strV [50,50]),(14,.int .i64 2),(15,.int .i64 0)]) (L':= [(b2,true,.cells ⟨(bkE.val eA elc eB etc).cells.toList⟩ 25 (0,0)),(b1,true,.cells ⟨(bkD.val dA dlc dB dtc).cells.toList⟩ 25 (0,0))]) ?_;have fl7:=fun(H':View) (p1 p2:Nat) (h':H6.le H') (k1:H' p1=some (true,.cells ⟨intsL [1,1,2]⟩ 3 (0,0))) (k2:H' p2=some (true,.cells ⟨intsL [5,9,9]⟩ 3 (0,0)))=> isV (Follow_c (Mp prog) H' bkE eA elc eB etc (hE6.bk.le h') sE (glob_le hG6 h') (some ⟨p1,0,none⟩) (some ⟨p2,0,none⟩) 3 3 3 3 (exAt [1,1,2]) (exAt [5,9,9]) (ints_lit [1,1,2] k1) (ints_lit [5,9,9] k2)) ex_follow2;refine U2 ?_;refine .e (.bs (zz:=fun p1=> ?_));refine .e (.bs (zz:=fun p2=> ?_));refine .c rfl rfl rfl rfl (fun H hs=> .h (fl7 H p1 p2 hs.base (hs.get (i:=1) rfl) (hs.get (i:=0) rfl))) ?_;refine U9 ?_;refine Tc.db (R':= [(1,.pointer (some ⟨b1,0,none⟩)),(2,.pointer (some ⟨b2,0,none⟩)),(3,g3.val),(4,.int .i64 0),(5,g5.val),(6,.int .i64 2),(7,.int .i64 0),(8,g8.val),(9,.int .i64 0),(10,g10.val),(11,.int .i64 0),(12,.int .i64 0),(13,strV [50,50]),(14,.int .i64 2),(15,.int .i64 0),(16,strV [49,49,50]),(17,.int .i64 (-1)),(18,.int .i64 0)]) (L':= [(b2,true,.cells ⟨(bkE.val eA elc eB etc).cells.toList⟩ 25 (0,0)),(b1,true,.cells ⟨(bkD.val dA dlc dB dtc).cells.toList⟩ 25 (0,0))]) ?_;refine U2 ?_;refine .c rfl rfl rfl rfl (fun H hs=> .h (isV (Look_c H bkD dA dlc dB dtc dF dfc (hD6.le hs.base) sD (glob_le hG6 hs.base) bkD_al) (congrArg lookV ex_look))) ?_;refine U9 ?_;refine Tc.db (R':= [(1,.pointer (some ⟨b1,0,none⟩)),(2,.pointer (some ⟨b2,0,none⟩)),(3,g3.val),(4,.int .i64 0),(5,g5.val),(6,.int .i64 2),(7,.int .i64 0),(8,g8.val),(9,.int .i64 0),(10,g10.val),(11,.int .i64 0),(12,.int .i64 0),(13,strV [50,50]),(14,.int .i64 2),(15,.int .i64 0),(16,strV [49,49,50]),(17,.int .i64 (-1)),(18,.int .i64 0),(19,.int .i64 1),(20,.int .i64 1),(21,.int .i64 0)]) (L':= [(b2,true,.cells ⟨(bkE.val eA elc eB etc).cells.toList⟩ 25 (0,0)),(b1,true,.cells ⟨(bkD.val dA dlc dB dtc).cells.toList⟩ 25 (0,0))]) ?_;refine U2 ?_;refine .c rfl rfl rfl rfl (fun H hs=> .h (isV (Settled_c _ H bkD dA dlc dB dtc (hD6.bk.le hs.base) sD (glob_le hG6 hs.base) bkD_al) (congrArg settledV ex_setD))) ?_;refine U11 ?_;refine Tc.db (R':= [(1,.pointer (some ⟨b1,0,none⟩)),(2,.pointer (some ⟨b2,0,none⟩)),(3,g3.val),(4,.int .i64 0),(5,g5.val),(6,.int .i64 2),(7,.int .i64 0),(8,g8.val),(9,.int .i64 0),(10,g10.val),(11,.int .i64 0),(12,.int .i64 0),(13,strV [50,50]),(14,.int .i64 2),(15,.int .i64 0),(16,strV [49,49,50]),(17,.int .i64 (-1)),(18,.int .i64 0),(19,.int .i64 1),(20,.int .i64 1),(21,.int .i64 0),(22,.int .i64 0),(23,.int .i64 0),(24,.bool false),(25,.int .i64 0)]) (L':= [(b2,true,.cells ⟨(bkE.val eA elc eB etc).cells.toList⟩ 25 (0,0)),(b1,true,.cells ⟨(bkD.val dA dlc dB dtc).cells.toList⟩ 25 (0,0))]) ?_;refine Tc.viaB (fun H' R' L'=> ∃oA olc oB otc oF ofc b26,H6.le H'∧BookAt H' bkO oA olc oB otc oF ofc∧AllIn [(1,.pointer (some ⟨b1,0,none⟩)),(2,.pointer (some ⟨b2,0,none⟩)),(3,g3.val),(4,.int .i64 0),(5,g5.val),(6,.int .i64 2),(7,.int .i64 0),(8,g8.val),(9,.int .i64 0),(10,g10.val),(11,.int .i64 0),(12,.int .i64 0),(13,strV [50,50]),(14,.int .i64 2),(15,.int .i64 0),(16,strV [49,49,50]),(17,.int .i64 (-1)),(18,.int .i64 0),(19,.int .i64 1),(20,.int .i64 1),(21,.int .i64 0),(22,.int .i64 0),(23,.int .i64 0),(24,.bool false),(25,.int .i64 0),(26,.pointer (some ⟨b26,0,none⟩)),(27,.int .i64 0)] R'∧List.Sublist [(b26,true,.cells ⟨(bkO.val oA olc oB otc).cells.toList⟩ 25 (0,0)),(b2,true,.cells ⟨(bkE.val eA elc eB etc).cells.toList⟩ 25 (0,0)),(b1,true,.cells ⟨(bkD.val dA dlc dB dtc).cells.toList⟩ 25 (0,0))] L') ?_ (fun fin=> ?_)
 rotate_left
 · refine Tc.dr [7] [] mixed rfl ?_;refine .q 0 rfl (OpV.load (E:=en) 1 rfl rfl rfl rfl rfl) ?_;refine .z 1 rfl (OpV.takeCall rfl rfl rfl rfl (fun H hs=> .h (train_c _ H 2 6))) ?_;refine Ta.callL2 2 6 (by kernel_rfl) rfl rfl rfl rfl rfl rfl rfl (by decide) (FnT.h (Know_c _ H6 bkD dA dlc dB dtc dF dfc hD6 sD hG6 bkD_al 1 (by decide) 2 2 6 6 ex_know.1 ex_know.2)) (by intro _ _ hh;exact hh.1) (by exact List.Sublist.refl _) (.inr (by exact List.Sublist.refl _)) (fun v Hk hv=> ?_) (TaOp.mk rfl rfl rfl (.al (zz:=fun b26=> ⟨S2.mk (by apply List.Sublist.cons;exact List.Sublist.refl _) (.inr (by apply List.Sublist.cons;exact List.Sublist.refl _)),?_⟩)))
   · obtain⟨lek,oA,olc,oB,otc,oF,ofc,rfl,hO⟩:=hv;refine .nn 3 ?_;refine .nn 4 ?_;refine .nw 5 ?_;refine Ta.each [6] (by kernel_rfl) rfl ⟨TaOp.mk rfl rfl rfl (.al (zz:=fun b26=> ⟨S2.mkL lek (by apply List.Sublist.cons;exact List.Sublist.refl _) (.inr (by apply List.Sublist.cons;exact List.Sublist.refl _)),?_⟩)),trivial⟩;refine Ta.each [7] (by kernel_rfl) rfl ⟨TaOp.mk rfl rfl rfl (Or.storeT (E:=en) 0 rfl rfl rfl rfl rfl rfl rfl rfl rfl rfl rfl ⟨S2.mkL lek (by apply List.Sublist.cons;exact List.Sublist.refl _) (.inl (by kernel_rfl)),?_⟩),trivial⟩;refine .nw 8 ?_;refine .dn ?_;exact fin _ _ _ ⟨oA,olc,oB,otc,oF,ofc,b26,lek,hO,⟨rfl,rfl,rfl,rfl,rfl,rfl,rfl,rfl,rfl,rfl,rfl,rfl,rfl,rfl,rfl,rfl,rfl,rfl,rfl,rfl,rfl,rfl,rfl,rfl,rfl,rfl,rfl,trivial⟩,(by exact List.Sublist.refl _)⟩
   · refine Ta.callL 2 (by kernel_rfl) rfl rfl rfl rfl rfl rfl rfl (by decide) (FnT.h (Know_c _ H6 bkD dA dlc dB dtc dF dfc hD6 sD hG6 bkD_al 1 (by decide) 2 2 6 6 ex_know.1 ex_know.2)) (by intro _ _ hh;exact hh.1) (by apply List.Sublist.cons;exact List.Sublist.refl _) (.inr (by apply List.Sublist.cons;exact List.Sublist.refl _)) (fun v Hk hv=> ?_);obtain⟨lek,oA,olc,oB,otc,oF,ofc,rfl,hO⟩:=hv;refine .nn 3 ?_;refine .nn 4 ?_;refine .nw 5 ?_;refine Ta.each [7] (by kernel_rfl) rfl ⟨TaOp.mk rfl rfl rfl (Or.storeT (E:=en) 0 rfl rfl rfl rfl rfl rfl rfl rfl rfl rfl rfl ⟨S2.mkL lek (by apply List.Sublist.cons;exact List.Sublist.refl _) (.inl (by kernel_rfl)),?_⟩),trivial⟩;refine .nw 8 ?_;refine .dn ?_;exact fin _ _ _ ⟨oA,olc,oB,otc,oF,ofc,b26,lek,hO,⟨rfl,rfl,rfl,rfl,rfl,rfl,rfl,rfl,rfl,rfl,rfl,rfl,rfl,rfl,rfl,rfl,rfl,rfl,rfl,rfl,rfl,rfl,rfl,rfl,rfl,rfl,rfl,trivial⟩,(by exact List.Sublist.refl _)⟩
 rintro H7 R' L' ⟨oA,olc,oB,otc,oF,ofc,b26,le7,hO7,hR,hL⟩;have tl7:=View.le_trans tl6 le7;have hD7:=hD6.le le7;have hE7:=hE6.le le7;have hG7:=glob_le hG tl7;refine Tc.dropB (R':= [(1,.pointer (some ⟨b1,0,none⟩)),(2,.pointer (some ⟨b2,0,none⟩)),(3,g3.val),(4,.int .i64 0),(5,g5.val),(6,.int .i64 2),(7,.int .i64 0),(8,g8.val),(9,.int .i64 0),(10,g10.val),(11,.int .i64 0),(12,.int .i64 0),(13,strV [50,50]),(14,.int .i64 2),(15,.int .i64 0),(16,strV [49,49,50]),(17,.int .i64 (-1)),(18,.int .i64 0),(19,.int .i64 1),(20,.int .i64 1),(21,.int .i64 0),(22,.int .i64 0),(23,.int .i64 0),(24,.bool false),(25,.int .i64 0),(26,.pointer (some ⟨b26,0,none⟩)),(27,.int .i64 0)]) (L':= [(b26,true,.cells ⟨(bkO.val oA olc oB otc).cells.toList⟩ 25 (0,0)),(b2,true,.cells ⟨(bkE.val eA elc eB etc).cells.toList⟩ 25 (0,0)),(b1,true,.cells ⟨(bkD.val dA dlc dB dtc).cells.toList⟩ 25 (0,0))]) ?_ hR hL;refine U3 ?_;refine .c rfl rfl rfl rfl (fun H hs=> .h (isV (Settled_c _ H bkO oA olc oB otc (hO7.bk.le hs.base) sO (glob_le hG7 hs.base) bkO_al) (congrArg settledV ex_setO))) ?_;refine U11 ?_;refine Tc.db (R':= [(1,.pointer (some ⟨b1,0,none⟩)),(2,.pointer (some ⟨b2,0,none⟩)),(3,g3.val),(4,.int .i64 0),(5,g5.val),(6,.int .i64 2),(7,.int .i64 0),(8,g8.val),(9,.int .i64 0),(10,g10.val),(11,.int .i64 0),(12,.int .i64 0),(13,strV [50,50]),(14,.int .i64 2),(15,.int .i64 0),(16,strV [49,49,50]),(17,.int .i64 (-1)),(18,.int .i64 0),(19,.int .i64 1),(20,.int .i64 1),(21,.int .i64 0),(22,.int .i64 0),(23,.int .i64 0),(24,.bool false),(25,.int .i64 0),(26,.pointer (some ⟨b26,0,none⟩)),(27,.int .i64 0),(28,.int .i64 2),(29,.int .i64 0),(30,.bool true),(31,.int .i64 0)]) (L':= [(b26,true,.cells ⟨(bkO.val oA olc oB otc).cells.toList⟩ 25 (0,0)),(b2,true,.cells ⟨(bkE.val eA elc eB etc).cells.toList⟩ 25 (0,0)),(b1,true,.cells ⟨(bkD.val dA dlc dB dtc).cells.toList⟩ 25 (0,0))]) ?_;have e2:bkD.needTo 1 (bkD.nf 1)=2:=ex_taken.2;refine U2 ?_;refine To.callF rfl rfl rfl rfl rfl rfl (by decide) (FnT.h (Taken_c _ H7 bkD dA dlc dB dtc hD7.bk sD hG7 bkD_al 1 (by decide))) (fun v H8 hv=> ?_);obtain⟨le8,g32,rfl,⟨ng32,lg32⟩,mg32⟩:=hv;rw[e2];refine U8 ?_;have tl8:=View.le_trans tl7 le8;have hD8:=hD7.le le8;have hE8:=hE7.le le8;have hO8:=hO7.le le8;have hG8:=glob_le hG tl8;refine U ?_;refine Tc.db (R':= [(1,.pointer (some ⟨b1,0,none⟩)),(2,.pointer (some ⟨b2,0,none⟩)),(3,g3.val),(4,.int .i64 0),(5,g5.val),(6,.int .i64 2),(7,.int .i64 0),(8,g8.val),(9,.int .i64 0),(10,g10.val),(11,.int .i64 0),(12,.int .i64 0),(13,strV [50,50]),(14,.int .i64 2),(15,.int .i64 0),(16,strV [49,49,50]),(17,.int .i64 (-1)),(18,.int .i64 0),(19,.int .i64 1),(20,.int .i64 1),(21,.int .i64 0),(22,.int .i64 0),(23,.int .i64 0),(24,.bool false),(25,.int .i64 0),(26,.pointer (some ⟨b26,0,none⟩)),(27,.int .i64 0),(28,.int .i64 2),(29,.int .i64 0),(30,.bool true),(31,.int .i64 0),(32,g32.val),(33,.int .i64 2),(34,.int .i64 0)]) (L':= [(b26,true,.cells ⟨(bkO.val oA olc oB otc).cells.toList⟩ 25 (0,0)),(b2,true,.cells ⟨(bkE.val eA elc eB etc).cells.toList⟩ 25 (0,0)),(b1,true,.cells ⟨(bkD.val dA dlc dB dtc).cells.toList⟩ 25 (0,0))]) ?_;refine U2 ?_;refine To.callF rfl rfl rfl rfl rfl rfl (by decide) (FnT.h (Slips_c _ H8 bkD dA dlc dB dtc hD8.bk sD hG8 bkD_al 0 (by decide))) (fun v H9 hv=> ?_);obtain⟨le9,g35,sm,rfl,⟨st1,st2⟩,⟨ng35,lg35⟩,mg35⟩:=hv;have e35:ddTo sm sm.length= [1,2]:=by rw[st1.len,ints_asc rfl st1 st2];exact ex_slips
 rw[e35] at ng35 lg35;refine U6 ?_;have tl9:=View.le_trans tl8 le9;have hD9:=hD8.le le9;have hE9:=hE8.le le9;have hO9:=hO8.le le9;have hG9:=glob_le hG tl9;refine U ?_;refine Tc.db (R':= [(1,.pointer (some ⟨b1,0,none⟩)),(2,.pointer (some ⟨b2,0,none⟩)),(3,g3.val),(4,.int .i64 0),(5,g5.val),(6,.int .i64 2),(7,.int .i64 0),(8,g8.val),(9,.int .i64 0),(10,g10.val),(11,.int .i64 0),(12,.int .i64 0),(13,strV [50,50]),(14,.int .i64 2),(15,.int .i64 0),(16,strV [49,49,50]),(17,.int .i64 (-1)),(18,.int .i64 0),(19,.int .i64 1),(20,.int .i64 1),(21,.int .i64 0),(22,.int .i64 0),(23,.int .i64 0),(24,.bool false),(25,.int .i64 0),(26,.pointer (some ⟨b26,0,none⟩)),(27,.int .i64 0),(28,.int .i64 2),(29,.int .i64 0),(30,.bool true),(31,.int .i64 0),(32,g32.val),(33,.int .i64 2),(34,.int .i64 0),(35,g35.val),(36,.int .i64 0)]) (L':= [(b26,true,.cells ⟨(bkO.val oA olc oB otc).cells.toList⟩ 25 (0,0)),(b2,true,.cells ⟨(bkE.val eA elc eB etc).cells.toList⟩ 25 (0,0)),(b1,true,.cells ⟨(bkD.val dA dlc dB dtc).cells.toList⟩ 25 (0,0))]) ?_;refine U2 ?_;refine .c rfl rfl rfl rfl (fun H hs=> .h (isV (Safe_c _ H bkD dA dlc dB dtc (hD9.bk.le hs.base) sD (glob_le hG9 hs.base) [51] (by decide)) ex_safe3)) ?_;refine U7 ?_;refine Tc.db (R':= [(1,.pointer (some ⟨b1,0,none⟩)),(2,.pointer (some ⟨b2,0,none⟩)),(3,g3.val),(4,.int .i64 0),(5,g5.val),(6,.int .i64 2),(7,.int .i64 0),(8,g8.val),(9,.int .i64 0),(10,g10.val),(11,.int .i64 0),(12,.int .i64 0),(13,strV [50,50]),(14,.int .i64 2),(15,.int .i64 0),(16,strV [49,49,50]),(17,.int .i64 (-1)),(18,.int .i64 0),(19,.int .i64 1),(20,.int .i64 1),(21,.int .i64 0),(22,.int .i64 0),(23,.int .i64 0),(24,.bool false),(25,.int .i64 0),(26,.pointer (some ⟨b26,0,none⟩)),(27,.int .i64 0),(28,.int .i64 2),(29,.int .i64 0),(30,.bool true),(31,.int .i64 0),(32,g32.val),(33,.int .i64 2),(34,.int .i64 0),(35,g35.val),(36,.int .i64 0),(37,.bool false),(38,.int .i64 0)]) (L':= [(b26,true,.cells ⟨(bkO.val oA olc oB otc).cells.toList⟩ 25 (0,0)),(b2,true,.cells ⟨(bkE.val eA elc eB etc).cells.toList⟩ 25 (0,0)),(b1,true,.cells ⟨(bkD.val dA dlc dB dtc).cells.toList⟩ 25 (0,0))]) ?_;refine U2 ?_;refine .c rfl rfl rfl rfl (fun H hs=> .h (isV (Safe_c _ H bkD dA dlc dB dtc (hD9.bk.le hs.base) sD (glob_le hG9 hs.base) [53] (by decide)) ex_safe5)) ?_;refine U7 ?_;refine Tc.db (R':= [(1,.pointer (some ⟨b1,0,none⟩)),(2,.pointer (some ⟨b2,0,none⟩)),(3,g3.val),(4,.int .i64 0),(5,g5.val),(6,.int .i64 2),(7,.int .i64 0),(8,g8.val),(9,.int .i64 0),(10,g10.val),(11,.int .i64 0),(12,.int .i64 0),(13,strV [50,50]),(14,.int .i64 2),(15,.int .i64 0),(16,strV [49,49,50]),(17,.int .i64 (-1)),(18,.int .i64 0),(19,.int .i64 1),(20,.int .i64 1),(21,.int .i64 0),(22,.int .i64 0),(23,.int .i64 0),(24,.bool false),(25,.int .i64 0),(26,.pointer (some ⟨b26,0,none⟩)),(27,.int .i64 0),(28,.int .i64 2),(29,.int .i64 0),(30,.bool true),(31,.int .i64 0),(32,g32.val),(33,.int .i64 2),(34,.int .i64 0),(35,g35.val),(36,.int .i64 0),(37,.bool false),(38,.int .i64 0),(39,.bool true),(40,.int .i64 0)]) (L':= [(b26,true,.cells ⟨(bkO.val oA olc oB otc).cells.toList⟩ 25 (0,0)),(b2,true,.cells ⟨(bkE.val eA elc eB etc).cells.toList⟩ 25 (0,0)),(b1,true,.cells ⟨(bkD.val dA dlc dB dtc).cells.toList⟩ 25 (0,0))]) ?_;refine U2 ?_;refine .c rfl rfl rfl rfl (fun H hs=> .h (isV (Spare_c _ H bkD dA dlc dB dtc (hD9.bk.le hs.base) sD (glob_le hG9 hs.base) 1 true) ex_spare)) ?_;refine U9 ?_;refine Tc.db (R':= [(1,.pointer (some ⟨b1,0,none⟩)),(2,.pointer (some ⟨b2,0,none⟩)),(3,g3.val),(4,.int .i64 0),(5,g5.val),(6,.int .i64 2),(7,.int .i64 0),(8,g8.val),(9,.int .i64 0),(10,g10.val),(11,.int .i64 0),(12,.int .i64 0),(13,strV [50,50]),(14,.int .i64 2),(15,.int .i64 0),(16,strV [49,49,50]),(17,.int .i64 (-1)),(18,.int .i64 0),(19,.int .i64 1),(20,.int .i64 1),(21,.int .i64 0),(22,.int .i64 0),(23,.int .i64 0),(24,.bool false),(25,.int .i64 0),(26,.pointer (some ⟨b26,0,none⟩)),(27,.int .i64 0),(28,.int .i64 2),(29,.int .i64 0),(30,.bool true),(31,.int .i64 0),(32,g32.val),(33,.int .i64 2),(34,.int .i64 0),(35,g35.val),(36,.int .i64 0),(37,.bool false),(38,.int .i64 0),(39,.bool true),(40,.int .i64 0),(41,strV [48]),(42,.bool true),(43,.int .i64 0)]) (L':= [(b26,true,.cells ⟨(bkO.val oA olc oB otc).cells.toList⟩ 25 (0,0)),(b2,true,.cells ⟨(bkE.val eA elc eB etc).cells.toList⟩ 25 (0,0)),(b1,true,.cells ⟨(bkD.val dA dlc dB dtc).cells.toList⟩ 25 (0,0))]) ?_;refine U ?_;refine .c rfl rfl rfl rfl (fun H hs=> .h (isV (Pulses_c _ H [49,50,48] (by decide)) ex_pulses)) ?_;refine U7 ?_;refine Tc.db (R':= [(1,.pointer (some ⟨b1,0,none⟩)),(2,.pointer (some ⟨b2,0,none⟩)),(3,g3.val),(4,.int .i64 0),(5,g5.val),(6,.int .i64 2),(7,.int .i64 0),(8,g8.val),(9,.int .i64 0),(10,g10.val),(11,.int .i64 0),(12,.int .i64 0),(13,strV [50,50]),(14,.int .i64 2),(15,.int .i64 0),(16,strV [49,49,50]),(17,.int .i64 (-1)),(18,.int .i64 0),(19,.int .i64 1),(20,.int .i64 1),(21,.int .i64 0),(22,.int .i64 0),(23,.int .i64 0),(24,.bool false),(25,.int .i64 0),(26,.pointer (some ⟨b26,0,none⟩)),(27,.int .i64 0),(28,.int .i64 2),(29,.int .i64 0),(30,.bool true),(31,.int .i64 0),(32,g32.val),(33,.int .i64 2),(34,.int .i64 0),(35,g35.val),(36,.int .i64 0),(37,.bool false),(38,.int .i64 0),(39,.bool true),(40,.int .i64 0),(41,strV [48]),(42,.bool true),(43,.int .i64 0),(44,.int .i64 13),(45,.int .i64 0)]) (L':= [(b26,true,.cells ⟨(bkO.val oA olc oB otc).cells.toList⟩ 25 (0,0)),(b2,true,.cells ⟨(bkE.val eA elc eB etc).cells.toList⟩ 25 (0,0)),(b1,true,.cells ⟨(bkD.val dA dlc dB dtc).cells.toList⟩ 25 (0,0))]) ?_;refine U ?_;refine .e (.bs (zz:=fun bw=> ?_));refine To.permL2 (L₁:= [(b26,true,.cells ⟨(bkO.val oA olc oB otc).cells.toList⟩ 25 (0,0)),(b2,true,.cells ⟨(bkE.val eA elc eB etc).cells.toList⟩ 25 (0,0)),(b1,true,.cells ⟨(bkD.val dA dlc dB dtc).cells.toList⟩ 25 (0,0))]++[(bw,true,.cells ⟨intsL [5,3,1]⟩ 3 (0,0))]) (by exact List.perm_append_comm) ?_;refine To.lift (L₂:= [(b26,true,.cells ⟨(bkO.val oA olc oB otc).cells.toList⟩ 25 (0,0)),(b2,true,.cells ⟨(bkE.val eA elc eB etc).cells.toList⟩ 25 (0,0)),(b1,true,.cells ⟨(bkD.val dA dlc dB dtc).cells.toList⟩ 25 (0,0))]) (L₁:= [(bw,true,.cells ⟨intsL [5,3,1]⟩ 3 (0,0))]) rfl (fun H10 hw=> ?_);have le10:=hw.base;have tl10:=View.le_trans tl9 le10;have hD10:=hD9.le le10;have hE10:=hE9.le le10;have hO10:=hO9.le le10;have hG10:=glob_le hG tl10;obtain⟨xc1,xc2,xc3,xc4,xc5⟩:=ex_cheap;have al5:(cheap (exAt [5,3,1]) 3 2 2).al=0:=by unfold ChSt.al;rw[xc4];rfl
 refine To.callF rfl rfl rfl rfl rfl rfl (by decide) (FnT.h (Cheapest_c _ H10 (some ⟨bw,0,none⟩) 3 3 (exAt [5,3,1]) (ints_lit [5,3,1] (hw.get (i:=0) rfl)) 2 2 (by decide) xc2 (by decide) (by decide))) (fun v H11 hv=> ?_);obtain⟨le11,ca,cn,cc,rfl,cn1,cs1⟩:=hv;rw[xc5] at cn1 cs1;rw[xc3,al5];refine U8 ?_;have tl11:=View.le_trans tl10 le11;have hD11:=hD10.le le11;have hE11:=hE10.le le11;have hO11:=hO10.le le11;have hG11:=glob_le hG tl11;refine U2 ?_;refine Tc.dropB (R':= [(1,.pointer (some ⟨b1,0,none⟩)),(2,.pointer (some ⟨b2,0,none⟩)),(3,g3.val),(4,.int .i64 0),(5,g5.val),(6,.int .i64 2),(7,.int .i64 0),(8,g8.val),(9,.int .i64 0),(10,g10.val),(11,.int .i64 0),(12,.int .i64 0),(13,strV [50,50]),(14,.int .i64 2),(15,.int .i64 0),(16,strV [49,49,50]),(17,.int .i64 (-1)),(18,.int .i64 0),(19,.int .i64 1),(20,.int .i64 1),(21,.int .i64 0),(22,.int .i64 0),(23,.int .i64 0),(24,.bool false),(25,.int .i64 0),(26,.pointer (some ⟨b26,0,none⟩)),(27,.int .i64 0),(28,.int .i64 2),(29,.int .i64 0),(30,.bool true),(31,.int .i64 0),(32,g32.val),(33,.int .i64 2),(34,.int .i64 0),(35,g35.val),(36,.int .i64 0),(37,.bool false),(38,.int .i64 0),(39,.bool true),(40,.int .i64 0),(41,strV [48]),(42,.bool true),(43,.int .i64 0),(44,.int .i64 13),(45,.int .i64 0),(46,.slice ca cn cc),(47,.int .i64 18),(48,.int .i64 0)]) (L':= [(b26,true,.cells ⟨(bkO.val oA olc oB otc).cells.toList⟩ 25 (0,0)),(b2,true,.cells ⟨(bkE.val eA elc eB etc).cells.toList⟩ 25 (0,0)),(b1,true,.cells ⟨(bkD.val dA dlc dB dtc).cells.toList⟩ 25 (0,0))]) ?_ ⟨rfl,rfl,rfl,rfl,rfl,rfl,rfl,rfl,rfl,rfl,rfl,rfl,rfl,rfl,rfl,rfl,rfl,rfl,rfl,rfl,rfl,rfl,rfl,rfl,rfl,rfl,rfl,rfl,rfl,rfl,rfl,rfl,rfl,rfl,rfl,rfl,rfl,rfl,rfl,rfl,rfl,rfl,rfl,rfl,rfl,rfl,rfl,rfl,trivial⟩ (by exact List.Sublist.refl _);(iterate 72 refine U ?_);refine Tc.db (R':= [(1,.pointer (some ⟨b1,0,none⟩)),(2,.pointer (some ⟨b2,0,none⟩)),(3,g3.val),(4,.int .i64 0),(5,g5.val),(6,.int .i64 2),(7,.int .i64 0),(8,g8.val),(9,.int .i64 0),(10,g10.val),(11,.int .i64 0),(12,.int .i64 0),(13,strV [50,50]),(14,.int .i64 2),(15,.int .i64 0),(16,strV [49,49,50]),(17,.int .i64 (-1)),(18,.int .i64 0),(19,.int .i64 1),(20,.int .i64 1),(21,.int .i64 0),(22,.int .i64 0),(23,.int .i64 0),(24,.bool false),(25,.int .i64 0),(26,.pointer (some ⟨b26,0,none⟩)),(27,.int .i64 0),(28,.int .i64 2),(29,.int .i64 0),(30,.bool true),(31,.int .i64 0),(32,g32.val),(33,.int .i64 2),(34,.int .i64 0),(35,g35.val),(36,.int .i64 0),(37,.bool false),(38,.int .i64 0),(39,.bool true),(40,.int .i64 0),(41,strV [48]),(42,.bool true),(43,.int .i64 0),(44,.int .i64 13),(45,.int .i64 0),(46,.slice ca cn cc),(47,.int .i64 18),(48,.int .i64 0)]) (L':= [(b26,true,.cells ⟨(bkO.val oA olc oB otc).cells.toList⟩ 25 (0,0)),(b2,true,.cells ⟨(bkE.val eA elc eB etc).cells.toList⟩ 25 (0,0)),(b1,true,.cells ⟨(bkD.val dA dlc dB dtc).cells.toList⟩ 25 (0,0))]) ?_;have up:∀ {A B C:View},A.le B→B.le C→A.le C:=View.le_trans;have w3:=fun(H':View) (h':H11.le H') (bs:Nat) (k1:H' bs=some (true,.cells ⟨strsV [[49,50],[49,51]]⟩ 9 (0,0)))=> SameWords_c (Mp prog) H' (g3.blk.map fun b=> ⟨b,0,none⟩) (some ⟨bs,0,none⟩) g3.n ([[49,50],[49,51]]:List (List UInt8)).length g3.cap ([[49,50],[49,51]]:List (List UInt8)).length _ _ (strs_of (g0:=g3) g3 (fun x hx=> h' _ _ ((up (up (up (up (up (up (up le4 le5) le6) le7) le8) le9) le10) le11) _ _ (mg3 x hx).1)) lg3 rfl rfl) (strs_lit [[49,50],[49,51]] k1) (by rw[ng3];decide) (by decide) true (words_true [[49,50],[49,51]] ng3);have w8:=fun(H':View) (h':H11.le H') (bs:Nat) (k1:H' bs=some (true,.cells ⟨strsV [[49,49,50],[50,50]]⟩ 9 (0,0)))=> SameWords_c (Mp prog) H' (g8.blk.map fun b=> ⟨b,0,none⟩) (some ⟨bs,0,none⟩) g8.n ([[49,49,50],[50,50]]:List (List UInt8)).length g8.cap ([[49,49,50],[50,50]]:List (List UInt8)).length _ _ (strs_of (g0:=g8) g8 (fun x hx=> h' _ _ ((up (up (up (up (up le6 le7) le8) le9) le10) le11) _ _ (mg8 x hx).1)) lg8 rfl rfl) (strs_lit [[49,49,50],[50,50]] k1) (by rw[ng8];decide) (by decide) true (words_true [[49,49,50],[50,50]] ng8);have c5:=fun(H':View) (h':H11.le H') (bs:Nat) (k1:H' bs=some (true,.cells ⟨intsL [0,0,2]⟩ 38 (0,0)))=> claims_c (Mp prog) H' (g5.blk.map fun b=> ⟨b,0,none⟩) (some ⟨bs,0,none⟩) g5.n ([0,0,2]:List Int).length g5.cap ([0,0,2]:List Int).length (fun i=> bkD.claimOf (i:Nat)) _ (by rw[ng5];exact cl_at g5 (fun x hx=> h' _ _ ((up (up (up (up (up (up le5 le6) le7) le8) le9) le10) le11) _ _ (mg5 x hx).1)) lg5 ng5) (ints_lit [0,0,2] k1) (by rw[ng5];decide) (by decide) true (by rw[ng5];rw[decide_eq_true (by rfl)];show(true&&allB _ 3)=true;rw[(allB_iff _).2 (three (decide_eq_true ex_clD.1.1) (decide_eq_true ex_clD.1.2.1) (decide_eq_true ex_clD.1.2.2))];rfl);have c10:=fun(H':View) (h':H11.le H') (bs:Nat) (k1:H' bs=some (true,.cells ⟨intsL [2,2,0]⟩ 38 (0,0)))=> claims_c (Mp prog) H' (g10.blk.map fun b=> ⟨b,0,none⟩) (some ⟨bs,0,none⟩) g10.n ([2,2,0]:List Int).length g10.cap ([2,2,0]:List Int).length (fun i=> bkE.claimOf (i:Nat)) _ (by rw[ng10];exact cl_at g10 (fun x hx=> h' _ _ ((up (up (up (up le7 le8) le9) le10) le11) _ _ (mg10 x hx).1)) lg10 ng10) (ints_lit [2,2,0] k1) (by rw[ng10];decide) (by decide) true (by rw[ng10];rw[decide_eq_true (by rfl)];show(true&&allB _ 3)=true;rw[(allB_iff _).2 (three (decide_eq_true ex_clE.1.1) (decide_eq_true ex_clE.1.2.1) (decide_eq_true ex_clE.1.2.2))];rfl);refine U2 ?_;refine .e (.bs (zz:=fun x1=> ?_));refine .c rfl rfl rfl rfl (fun H hs=> .h (w3 H hs.base x1 (hs.get (i:=0) rfl))) ?_;refine U3 ?_;refine .e (.bs (zz:=fun x2=> ?_));refine .c rfl rfl rfl rfl (fun H hs=> .h (c5 H hs.base x2 (hs.get (i:=0) rfl))) ?_;refine U8 ?_;refine .e (.bs (zz:=fun x3=> ?_));refine .c rfl rfl rfl rfl (fun H hs=> .h (w8 H hs.base x3 (hs.get (i:=0) rfl))) ?_;refine U4 ?_;refine .e (.bs (zz:=fun x4=> ?_));refine .c rfl rfl rfl rfl (fun H hs=> .h (c10 H hs.base x4 (hs.get (i:=0) rfl))) ?_;refine U37 ?_;refine Tc.db (R':= [(1,.pointer (some ⟨b1,0,none⟩)),(2,.pointer (some ⟨b2,0,none⟩)),(3,g3.val),(4,.int .i64 0),(5,g5.val),(6,.int .i64 2),(7,.int .i64 0),(8,g8.val),(9,.int .i64 0),(10,g10.val),(11,.int .i64 0),(12,.int .i64 0),(13,strV [50,50]),(14,.int .i64 2),(15,.int .i64 0),(16,strV [49,49,50]),(17,.int .i64 (-1)),(18,.int .i64 0),(19,.int .i64 1),(20,.int .i64 1),(21,.int .i64 0),(22,.int .i64 0),(23,.int .i64 0),(24,.bool false),(25,.int .i64 0),(26,.pointer (some ⟨b26,0,none⟩)),(27,.int .i64 0),(28,.int .i64 2),(29,.int .i64 0),(30,.bool true),(31,.int .i64 0),(32,g32.val),(33,.int .i64 2),(34,.int .i64 0),(35,g35.val),(36,.int .i64 0),(37,.bool false),(38,.int .i64 0),(39,.bool true),(40,.int .i64 0),(41,strV [48]),(42,.bool true),(43,.int .i64 0),(44,.int .i64 13),(45,.int .i64 0),(46,.slice ca cn cc),(47,.int .i64 18),(48,.int .i64 0)]) (L':= [(b26,true,.cells ⟨(bkO.val oA olc oB otc).cells.toList⟩ 25 (0,0)),(b2,true,.cells ⟨(bkE.val eA elc eB etc).cells.toList⟩ 25 (0,0)),(b1,true,.cells ⟨(bkD.val dA dlc dB dtc).cells.toList⟩ 25 (0,0))]) ?_;have c32:=fun(H':View) (h':H11.le H') (bs:Nat) (k1:H' bs=some (true,.cells ⟨intsL [2,0]⟩ 38 (0,0)))=> claims_c (Mp prog) H' (g32.blk.map fun b=> ⟨b,0,none⟩) (some ⟨bs,0,none⟩) g32.n ([2,0]:List Int).length g32.cap ([2,0]:List Int).length (bkD.takenAt 1) _ (by rw[ng32];exact cl_at g32 (fun x hx=> h' _ _ ((up (up le9 le10) le11) _ _ (mg32 x hx).1)) lg32 ng32) (ints_lit [2,0] k1) (by rw[ng32];decide) (by decide) true (by rw[ng32];rw[decide_eq_true (by rfl)];show(true&&allB _ 2)=true;rw[(allB_iff _).2 (two (decide_eq_true ex_taken.1.1) (decide_eq_true ex_taken.1.2))];rfl);have n35:=fun(H':View) (h':H11.le H') (bs:Nat) (k1:H' bs=some (true,.cells ⟨intsL [1,2]⟩ 3 (0,0)))=> SameNums_eq (Mp prog) H' (g35.blk.map fun b=> ⟨b,0,none⟩) (some ⟨bs,0,none⟩) 2 g35.cap 2 (exAt [1,2]) (exAt [1,2]) (cl_at g35 (fun x hx=> h' _ _ ((up le10 le11) _ _ (mg35 x hx).1)) (lg35.trans (clL_ints _)) ng35) (ints_lit [1,2] k1) (by decide) (fun _ _=> rfl);have w46:=fun(H':View) (h':H11.le H') (bs:Nat) (k1:H' bs=some (true,.cells ⟨strsV [[49],[50,49],[50,50]]⟩ 9 (0,0)))=> SameWords_c (Mp prog) H' ca (some ⟨bs,0,none⟩) cn ([[49],[50,49],[50,50]]:List (List UInt8)).length cc ([[49],[50,49],[50,50]]:List (List UInt8)).length _ _ (strs_src (cs1.mono (View.le_trans (View.le_refl H11) h')) cn1) (strs_lit [[49],[50,49],[50,50]] k1) (by rw[cn1];decide) (by decide) true (words_true [[49],[50,49],[50,50]] cn1);rw[show g35.val=.slice (g35.blk.map fun b=> ⟨b,0,none⟩) 2 g35.cap by unfold Gl.val;rw[ng35];rfl];refine U12 ?_;refine .e (.bs (zz:=fun y1=> ?_));refine .c rfl rfl rfl rfl (fun H hs=> .h (c32 H hs.base y1 (hs.get (i:=0) rfl))) ?_;refine U7 ?_;refine .e (.bs (zz:=fun y2=> ?_));refine .c rfl rfl rfl rfl (fun H hs=> .h (n35 H hs.base y2 (hs.get (i:=0) rfl))) ?_;refine U18 ?_;refine .e (.bs (zz:=fun y3=> ?_));refine .c rfl rfl rfl rfl (fun H hs=> .h (w46 H hs.base y3 (hs.get (i:=0) rfl))) ?_;refine U7 ?_;refine .rt hK func18 results18 [_] ?_;exact fun H' hs=> ⟨View.le_trans tl11 hs.base,rfl⟩
set_option maxHeartbeats 8000000
theorem trainsL_snoc {s:List UInt8}{p:Nat}{x:UInt8}(h:s[p]? =some x)(q:Int):trainsL (s.take (p+1)) q=trainsL (s.take p) q++[.int .i64 (pn x:Nat),.int .i64 (pn x:Nat),.int .i64 q,.int .i64 q]:=by
 obtain⟨hp,rfl⟩:=List.getElem?_eq_some_iff.1 h;unfold trainsL;rw[List.take_succ_eq_append_getElem hp,List.flatMap_append];rfl
section
variable(M:Md prog)(H:View)
theorem Trains_yes(s:List UInt8)(hs1:isNum s=true)(p:Int)(hp:0≤p∧p≤99):
   CallT M 69 #[strV s,.int .i64 p] H (fun v H'=> H.le H'∧∃g:Gl 47 4,v=.tuple ⟨[g.val,.int .i64 0]⟩∧(g.n=s.length∧g.l=trainsL s p)∧∀x∈g.bl,H' x.1=some x.2∧H x.1=none):=by
 have hdg:s.all dig=true∧1≤s.length∧s.length≤3:=by
   have h:=hs1;unfold isNum at h;simp only[Bool.and_eq_true,decide_eq_true_eq] at h;exact⟨h.2,h.1.1,h.1.2⟩
 obtain⟨hdg,hl1,hl3⟩:=hdg;refine .en func69 ntmps69 fun St c cs hK=> ?_;refine U10 ?_;refine .c rfl rfl rfl rfl (fun H hs=> .h (isB (isNumber_c M H s (by omega)) hs1)) ?_;refine U7 ?_;refine .c rfl rfl rfl rfl (fun H hs=> .h (between_is M H p 0 99 true (decide_eq_true hp))) ?_;refine U14 ?_;refine .e (Or.rangeS (E:=en) (s:=⟨⟨s⟩⟩) rfl rfl rfl rfl rfl (by decide) (fun it=> ?_));refine U2 ?_;refine Tc.db (Tc.loopInv (σ:= { x:Nat×Gl 47 4//x.1≤s.length∧x.2.n=x.1∧x.2.l=trainsL (s.take x.1) p }) (fun x=> ([(1,.int .i64 p),(6,x.1.2.val),(18,.pointer (some ⟨it,0,none⟩))],(it,true,.stringIter ⟨⟨s⟩⟩ x.1.1)::x.1.2.bl)) (fun x=> s.length-x.1.1) ?_ ⟨(0,Gl.nil 47 4),Nat.zero_le _,rfl,rfl⟩);rintro⟨⟨q,g⟩,hq,hgn,hgl⟩ ih;simp only at hq hgn hgl;show Tc M St _ _ _ _ [(1,.int .i64 p),(6,g.val),(18,.pointer (some ⟨it,0,none⟩))] ((it,true,.stringIter ⟨⟨s⟩⟩ q)::g.bl) _ _;by_cases c1:q=s.length
 · clear ih;subst c1;have hnp:¬s.length<(ByteArray.mk ⟨s⟩).size:=by show ¬s.length<s.length;omega
   rw[List.take_length] at hgl;refine U2 ?_;refine .e (Or.nextS0 0 rfl rfl rfl hnp rfl (by decide) ?_);refine U11 ?_;refine .rt hK func69 results69 [_,_] ?_;exact fun H' hs=> ⟨hs.base,g,rfl,⟨hgn,hgl⟩,fun x hx=> ⟨hs.at_ x (by simp[hx]),hs.out x (by simp[hx])⟩⟩
 · have c2:q<s.length:=by omega
   obtain⟨x,hx,hdx,hdec⟩:=dec_dig s q c2 hdg;have hps:q<(ByteArray.mk ⟨s⟩).size:=c2;refine U2 ?_;refine .e (Or.nextS 0 rfl rfl rfl hps hdec rfl (by decide) ?_);refine U14 ?_;refine .c rfl rfl rfl rfl (fun H hs=> .h (pulses_c M H x hdx)) ?_;refine .c rfl rfl rfl rfl (fun H hs=> .h (one_c M H (pn x:Nat))) ?_;refine U ?_;refine .c rfl rfl rfl rfl (fun H hs=> .h (one_c M H p)) ?_;refine U ?_;refine .e (.bs (zz:=fun bs=> ?_));refine .e (Or.append (E:=en) (g:=g) (m:=1) (new:= [.int .i64 (pn x:Nat),.int .i64 (pn x:Nat),.int .i64 p,.int .i64 p]) (yv:=.slice (some ⟨bs,0,none⟩) 1 1) 2 rfl rfl rfl rfl rfl rfl rfl rfl rfl rfl rfl rfl rfl rfl rfl (fun H hs=> SrcAt.of (hs.get (i:=0) rfl) (Nat.le_of_ble_eq_true rfl)) rfl (by omega) rfl (by decide) (fun g2 hn2 hl2=> ?_));refine U3 ?_;exact Tc.db (ih ⟨(q+1,g2),by simp only;omega,by simp only;omega,by simp only;rw[hl2,hgl,trainsL_snoc hx]⟩ (by simp only;omega))
end
set_option maxHeartbeats 16000000
abbrev Quad:=Int×Int×Int×Int
def QuadsAt(H:View)(A:Option Addr)(l:List Quad):Prop:=
 l= []∨∃b o f gs gt gz,A=some ⟨b,o,none⟩∧H b=some (f,.cells ⟨gs⟩ gt gz)∧∀(j:Nat) x,l[j]? =some x→ldL true 4 gs (o+(j:Int).toNat*4)=some (trainV x.1 x.2.1 x.2.2.1 x.2.2.2)
theorem quads_len:∀l,(quadsV l).length=l.length*4
 | []=> rfl
 | x::t=> by
   have:=quads_len t;show(quadV x++quadsV t).length=_;rw[List.length_append,this,List.length_cons];show 4+_=_;omega
theorem quads_drop:∀(l:List Quad) (j:Nat) x (rest:List Value),l[j]? =some x→((quadsV l++rest).drop (j*4)).take 4=quadV x
 | [],_,_,_,h=> by cases h
 | y::t,0,x,rest,h=> by
   cases h
   show((quadV y++quadsV t)++rest).take 4=_;rw[List.append_assoc];rfl
 | y::t,j+1,x,rest,h=> by
   have:=quads_drop t j x rest h;show(((quadV y++quadsV t)++rest).drop ((j+1)*4)).take 4=_;rw[List.append_assoc,show(j+1)*4=4+j*4 by omega,←List.drop_drop];exact this
theorem quads_of(g:Gl 47 4){H:View}(h:∀x∈g.bl,H x.1=some x.2){l:List Quad}(hl:g.l=quadsV l):QuadsAt H (g.blk.map fun b=> ⟨b,0,none⟩) l:=by
 have hgl:=g.hl;rw[hl,quads_len] at hgl;cases hbb:g.blk with
 | none=>
   have:=g.h0 hbb;have:=g.hc;exact .inl (List.eq_nil_of_length_eq_zero (by omega))
 | some b=>
   have hbl:g.bl= [(b,true,.cells ⟨g.l++g.junk⟩ 47 (0,0))]:=by unfold Gl.bl;rw[hbb]
   refine .inr ⟨b,0,true,_,47,(0,0),rfl,h (b,true,.cells ⟨g.l++g.junk⟩ 47 (0,0)) (by rw[hbl];simp),fun j x hx=> ?_⟩;have hjl:=(List.getElem?_eq_some_iff.1 hx).1;rw[Nat.zero_add,Int.toNat_natCast];unfold ldL;have hlen:j*4+4≤(g.l++g.junk).length:=by rw[List.length_append,hl,quads_len];omega
   rw[show Nat.ble (j*4+4) (g.l++g.junk).length=true from Nat.ble_eq_true_of_le hlen,hl];simp only[quads_drop l j x g.junk hx];rfl
set_option maxHeartbeats 1000000
def dialBk(k:Bk)(s:List UInt8)(P:Int):Bk:= { k with nt:=s.length,pf:=fun i=> (pnAt s i:Nat),pt:=fun i=> (pnAt s i:Nat),qf:=fun _=> P,qt:=fun _=> P }
theorem trainsL_quads(s:List UInt8)(P:Int):trainsL s P=quadsV (s.map fun x=> ((pn x:Nat),(pn x:Nat),P,P)):=by
 unfold trainsL quadsV;rw[List.flatMap_map];rfl
theorem dial_trains(k:Bk){s:List UInt8}{P:Int}{H:View}(g:Gl 47 4)(h:∀x∈g.bl,H x.1=some x.2)(hn:g.n=s.length)(hl:g.l=trainsL s P):TrainsAt H (dialBk k s P) (g.blk.map fun b=> ⟨b,0,none⟩) g.cap:=by
 have hQ:=quads_of g h (hl.trans (trainsL_quads s P));refine⟨by have:=g.hc;show s.length≤_;omega,?_⟩;rcases hQ with h0|⟨b,o,f,gs,gt,gz,h1,h2,h3⟩
 · exact .inl (by show s.length=0;have:=congrArg List.length h0;simpa using this)
 · refine .inr ⟨b,o,f,gs,gt,gz,h1,h2,fun i hi=> ?_⟩;have hi':i<s.length:=hi;have:=h3 i ((pn s[i]:Nat),(pn s[i]:Nat),P,P) (by rw[List.getElem?_map,List.getElem?_eq_getElem hi'];rfl);have e:pnAt s i=pn s[i]:=by unfold pnAt;rw[List.getElem?_eq_getElem hi'];rfl
   show ldL true 4 gs _=some (trainV (pnAt s i:Nat) (pnAt s i:Nat) P P);rw[e];exact this
end Go.Proofs.YtdnfdeplcjaonaaGreatDoor
namespace Go.RL
section
variable {P:Program}{E:Env P}{M:Md P}{n:Nat}{H₀:View}{R:Rg}{L:Bl}{K:Rg→Bl→Prop}{o:Oper}{d:Nat}
theorem mid_perm(X B Y:Bl):((X++Y)++B).Perm (X++(B++Y)):=by
 rw[List.append_assoc];exact(List.Perm.refl X).append List.perm_append_comm
theorem Or.appendAmid(k:Nat)(T:Bl→Bl){Y:Bl}(hT:∀B,(T B).Perm (Y++B)){cl:Go.Call}{x y:Operand}{t xt e:TypeId}{sz m:Nat}{yv:Value}{new:List Value}{g:Gl e sz}{r re rx:TyRow}{ex:TypeId}(hop:o.op=.call cl)(hcl:cl.callee=.builtin .append)(hat:cl.argTypes=#[t,xt])(har:cl.args=#[x,y])
   (hx:evR R x=some g.val) (hy:evR R y=some yv) (ht:E.ty t=some r) (hds:r.ds=.slice e) (hre:E.ty e=some re) (hsz:re.size=sz) (hzs:Nat.beq re.zero.cells.toList.length sz=true) (hxt:E.ty xt=some rx) (hex:rx.ds=.slice ex) (hby:Nat.ble re.bytes 1000=true)
   (hL:L.drop k=T g.bl) (hsrc:∀H,SymSt H₀ L H→SrcAt H sz yv m new) (hs:new.all single=true) (hm:g.n+m≤1000000000) (hd:o.dst=some d) (hn:d<n)
   (hk:∀g':Gl e sz,g'.n=g.n+m→g'.l=g.l++new→K ((d,g'.val)::R) (L.take k++T g'.bl)):Or M n H₀ R L o K:=
 .val hd hn fun H tmps hst hr=> by
   have hLe:L=L.take k++T g.bl:=by rw[←hL,List.take_append_drop]
   unfold execOp;rw[hop];simp only[resolve,hcl,hat,har];have hm':Array.map (evT tmps) #[x,y]=#[g.val,yv]:=by simp[hr.ev hx,hr.ev hy]
   rw[hm'];have hp:∀B,((L.take k++Y)++B).Perm (L.take k++T B):=fun B=> by rw[List.append_assoc];exact(List.Perm.refl _).append (hT B).symm
   have hst0:=hst;rw[hLe] at hst0;have hst2:SymSt H₀ ((L.take k++Y)++g.bl) H:=hst0.perm (hp g.bl);refine vwp_bind (Builtin.append_ #[t,xt] o.type #[g.val,yv]) _ ?_;refine vwp_append ht hds hre hsz (Nat.eq_of_beq_eq_true hzs) ⟨rx,ex,hxt,hex⟩ (Nat.le_of_ble_eq_true hby) hm (fun z hz=> hst2.at_ z (by simp[hz])) (hsrc H hst) hs fun g' H' h1 h2 h3 h4 h5=> ?_;exact⟨_,rfl,_,(hst2.grown h3 h4 h5).perm (hp g'.bl).symm,hk g' h1 h2⟩
end
end Go.RL
namespace Go.Proofs.YtdnfdeplcjaonaaGreatDoor
open Go.RL Go.Proofs.Tryz
set_option maxRecDepth 10000
set_option maxHeartbeats 16000000
section
variable(M:Md prog)(H:View)
end
set_option maxHeartbeats 8000000
section
variable(M:Md prog)(H:View)
end
set_option maxHeartbeats 1000000
section
variable(M:Md prog)(H:View)
end
set_option maxHeartbeats 16000000
section
variable(M:Md prog)(H:View)
end
end Go.Proofs.YtdnfdeplcjaonaaGreatDoor
namespace Go.RL
open Go.Conc
def bytesV(s:List UInt8):List Value:=s.map fun b=> .int .u8 (b.toNat:Nat)
section
variable {P:Program}{E:Env P}{M:Md P}{n:Nat}{H₀:View}{R:Rg}{L L':Bl}{K:Rg→Bl→Prop}{o:Oper}{d:Nat}{v:Value}
theorem bytes_push(a:List UInt8)(b:UInt8):(ByteArray.mk ⟨a⟩).push b=ByteArray.mk ⟨a++[b]⟩:=by
 apply ByteArray.ext
 apply Array.ext'
 simp
theorem vwp_bytesLoop {H:View}{Q:ByteArray→View→Prop}(F:Value→ByteArray→Sem (ForInStep ByteArray))(hF:∀(b:UInt8) acc,F (.int .u8 (b.toNat:Nat)) acc=Sem.pure (.yield (acc.push b))):∀(s a:List UInt8),Q ⟨⟨a++s⟩⟩ H→vwp P (forIn (bytesV s) (ByteArray.mk ⟨a⟩) F) H Q
 | [],a,h=> by
   rw[List.append_nil] at h;exact h
 | b::s,a,h=> by
   show vwp P (forIn (Value.int .u8 (b.toNat:Nat)::bytesV s) (ByteArray.mk ⟨a⟩) F) H Q;rw[List.forIn_cons];refine vwp_bind _ _ ?_;rw[hF];show vwp P (forIn (bytesV s) ((ByteArray.mk ⟨a⟩).push b) F) H Q;rw[bytes_push];refine vwp_bytesLoop F hF s (a++[b]) ?_;rw[List.append_assoc];exact h
theorem vwp_bytesToString {H:View}{Q:Value→View→Prop}{y:Value}{m:Nat}{s:List UInt8}(h:SrcAt H 1 y m (bytesV s))(hq:Q (strV s) H):vwp P (Conv.bytesToString y) H Q:=by
 obtain⟨_,hl,⟨a,c,rfl,he⟩|⟨b,off,c,f,cs,e,fz,rfl,hb,hle,ht⟩⟩:=h
 · have:s= []:=by cases s with
     | nil=> rfl
     | cons _ _=> cases he
   subst this;have hm:m=0:=by simpa [bytesV] using hl.symm
   subst hm;cases a with
   | none=> exact hq
   | some a=> exact hq
 · have hm:m=(bytesV s).length:=by rw[hl,Nat.mul_one]
   unfold Conv.bytesToString;show vwp P ((loadCellsFrom ⟨b,off,none⟩ 0 m #[]).bind _) H Q;refine vwp_bind _ _ (vwp_loadCells b off hb m 0 #[] (by rw[hm];omega) ?_);rw[hm,Nat.add_zero,ht];refine vwp_bind _ _ ?_;simp only[Array.empty_append,List.forIn_toArray];exact vwp_bytesLoop _ (fun b acc=> by
     show(pure (ForInStep.yield (acc.push (UInt8.ofNat ((b.toNat:Nat):Int).toNat))):Sem (ForInStep ByteArray))=Sem.pure (ForInStep.yield (acc.push b));rw[Int.toNat_natCast,UInt8.ofNat_toNat];rfl) s [] hq
theorem OpV.convB {t u e:TypeId}{x:Operand}{yv:Value}{m:Nat}{s:List UInt8}{r re r':TyRow}(hop:o.op=.convert t u x)(hx:evR R x=some yv)(hsrc:∀H,SymSt H₀ L H→SrcAt H 1 yv m (bytesV s))(ht:E.ty t=some r)(hr:r.ds=.slice e)(hte:E.ty e=some re)(hre:re.ds=.int .u8)(ht':E.ty u=some r')(hr':r'.ds=.str):
   OpV P n H₀ R L o (strV s):=fun H tmps hs hrr=> by
 unfold execOp;rw[hop];simp only[hrr.ev hx];have h1:=hsrc H hs;obtain⟨⟨a,c,rfl⟩,_⟩:=h1;refine vwp_bind (convert t u (.slice a m c)) _ ?_;unfold convert;refine vwp_bind (underlying t) _ (vwp_underlying (ds_slice ((E.ok _ _ ht).ds.trans hr)) (vwp_bind (underlying u) _ (vwp_underlying (ds_str ((E.ok _ _ ht').ds.trans hr')) ?_)));refine vwp_bind (underlying e) _ (vwp_underlying (ds_int ((E.ok _ _ hte).ds.trans hre)) ?_);exact vwp_bytesToString (hsrc H hs) ⟨rfl,rfl⟩
end
end Go.RL
namespace Go.Proofs.YtdnfdeplcjaonaaGreatDoor
open Go.RL Go.Proofs.Tryz
set_option maxRecDepth 10000
set_option maxHeartbeats 8000000
section
variable(M:Md prog)(H:View)
end
end Go.Proofs.YtdnfdeplcjaonaaGreatDoor
namespace Go.RL
section
variable {P:Program}{M:Md P}{n:Nat}{H₀:View}{R:Rg}{L:Bl}{o:Oper}{K:Rg→Bl→Prop}{d:Nat}
end
section
variable {P:Program}{M:Md P}{St:View→Goroutine→Prop}{n:Nat}{b:FB}{H₀:View}{cs:List Frame}{R:Rg}{L:Bl}{ds:List Deferred}{todo:List Item}
end
end Go.RL
namespace Go.Proofs.YtdnfdeplcjaonaaGreatDoor
open Go.RL Go.Proofs.Tryz
set_option maxRecDepth 10000
set_option maxHeartbeats 8000000
section
variable(M:Md prog)(H:View)
end
section
variable(M:Md prog)(H:View)
end
section
variable(M:Md prog)(H:View)
theorem pulsesOf_c(x:UInt8)(hx:dig x=true):CallT M 144 #[.int .u8 (x.toNat:Nat)] H (fun v H'=> H.le H'∧v=.int .i64 (pn x:Nat)):=by
 have hd:=of_decide_eq_true hx;by_cases c1:x.toNat=48
 · have e:pn x=10:=if_pos c1;rw[e,c1];refine .en func144 ntmps144 fun St c cs hK=> ?_;refine U15 ?_;refine .rt hK func144 results144 [_] ?_;exact okB
 · have e:pn x=x.toNat-48:=if_neg c1;rw[e];have c2:¬((x.toNat:Nat):Int)=48:=by omega
   have w1:intBin .sub .u8 ((x.toNat:Nat):Int) 48=some (.int .u8 ((x.toNat-48:Nat):Int)):=by
     have:IntKind.u8.wrap (((x.toNat:Nat):Int)-48)=((x.toNat-48:Nat):Int):=by
       rw[show((x.toNat:Nat):Int)-48=((x.toNat-48:Nat):Int) by omega];rcases(by omega:x.toNat-48=1∨x.toNat-48=2∨x.toNat-48=3∨x.toNat-48=4∨x.toNat-48=5∨x.toNat-48=6∨x.toNat-48=7∨x.toNat-48=8∨x.toNat-48=9) with h|h|h|h|h|h|h|h|h <;> rw[h] <;> rfl
     show some (Value.int _ (IntKind.u8.wrap _))=_;rw[this]
   have w2:IntKind.i64.wrap ((x.toNat-48:Nat):Int)=((x.toNat-48:Nat):Int):=wrap64 (by omega) (by omega);refine .en func144 ntmps144 fun St c cs hK=> ?_;refine U19 ?_;refine .rt hK func144 results144 [_] ?_;exact okB
end
theorem takenN_succ {s:List UInt8}{i:Nat}{x:UInt8}(h:s[i]? =some x):takenN (s.take (i+1))=takenN (s.take i)+pn x:=by
 unfold takenN;rw[List.take_add_one,h,List.map_append,List.sum_append];simp
theorem all_take {s:List UInt8}(h:s.all dig=true)(i:Nat):(s.take i).all dig=true:=List.all_eq_true.2 fun x hx=> List.all_eq_true.1 h x (List.mem_of_mem_take hx)
section
variable(M:Md prog)(H:View)
theorem PulsesOf_c(s:List UInt8)(hs1:s.all dig=true)(hs2:s.length≤1000):CallT M 141 #[strV s] H (fun v H'=> H.le H'∧v=.int .i64 (takenN s:Nat)):=by
 refine .en func141 ntmps141 fun St c cs hK=> ?_;refine U14 ?_;refine Tc.db (Tc.loopInv (σ:= { i:Nat//i≤s.length }) (fun i=> ([(0,strV s),(3,.int .i64 (takenN (s.take i.1):Nat)),(4,.int .i64 (i.1:Nat))],[])) (fun i=> s.length-i.1) ?_ ⟨0,Nat.zero_le _⟩);rintro⟨i,hi⟩ ih;show Tc M St _ _ _ _ [(0,strV s),(3,.int .i64 (takenN (s.take i):Nat)),(4,.int .i64 (i:Nat))] [] _ _;by_cases c1:i=s.length
 · clear ih;subst c1;rw[List.take_length];refine U15 ?_;refine .rt hK func141 results141 [_] ?_;exact okB
 · have c2:i<s.length:=by omega
   obtain⟨x,hx⟩:∃x,s[i]? =some x:=⟨_,List.getElem?_eq_getElem c2⟩
   have hdx:dig x=true:=List.all_eq_true.1 hs1 x (List.mem_of_getElem? hx);have hix:s[((i:Nat):Int).toNat]? =some x:=by rw[Int.toNat_natCast];exact hx
   have hpx:=pn_in hdx;have hpo:=fun(H':View)=> pulsesOf_c M H' x hdx;have hih:=ih ⟨i+1,by omega⟩ (by simp only;omega);clear ih;simp only[takenN_succ hx] at hih;have h1:=takenN_le _ (all_take hs1 i);rw[List.length_take] at h1;have e1:((takenN (s.take i)+pn x:Nat):Int)=((takenN (s.take i):Nat):Int)+((pn x:Nat):Int):=by omega
   rw[e1] at hih;refine U17 ?_;refine .c rfl rfl rfl rfl (fun H hs=> .h (hpo H)) ?_;refine U9 ?_;exact Tc.db (hih)
theorem PulsesR_c(s:List UInt8)(hs2:s.length≤1000):CallT M 68 #[strV s] H (fun v H'=> H.le H'∧v=pulsesV s):=by
 cases hin:isNum s with
 | false=>
   have e:pulsesV s=.tuple ⟨[.int .i64 0,.int .i64 3]⟩:=if_pos hin;rw[e];refine .en func68 ntmps68 fun St c cs hK=> ?_;refine U9 ?_;refine .c rfl rfl rfl rfl (fun H hs=> .h (IsNumberR_c M H s (by omega) false hin)) ?_;refine U8 ?_;refine .rt hK func68 results68 [_,_] ?_;exact okB
 | true=>
   have e:pulsesV s=.tuple ⟨[.int .i64 (takenN s:Nat),.int .i64 0]⟩:=if_neg (by simp[hin]);have hsd:s.all dig=true:=by unfold isNum at hin;rw[Bool.and_eq_true] at hin;exact hin.2
   rw[e];refine .en func68 ntmps68 fun St c cs hK=> ?_;refine U9 ?_;refine .c rfl rfl rfl rfl (fun H hs=> .h (IsNumberR_c M H s (by omega) true hin)) ?_;refine U7 ?_;refine .c rfl rfl rfl rfl (fun H hs=> .h (PulsesOf_c M H s hsd hs2)) ?_;refine U3 ?_;refine .rt hK func68 results68 [_,_] ?_;exact okB
theorem TrainsR_no(s:List UInt8)(hs2:s.length≤1000)(p:Int)(h:isNum s=false∨¬(0≤p∧p≤99)):CallT M 70 #[strV s,.int .i64 p] H (fun v H'=> H.le H'∧v=.tuple ⟨[.slice none 0 0,.int .i64 (if isNum s=false then 3 else 1)]⟩):=by
 cases hin:isNum s with
 | false=>
   rw[if_pos rfl];refine .en func70 ntmps70 fun St c cs hK=> ?_;refine U9 ?_;refine .c rfl rfl rfl rfl (fun H hs=> .h (IsNumberR_c M H s (by omega) false hin)) ?_;refine U8 ?_;refine .rt hK func70 results70 [_,_] ?_;exact okB
 | true=>
   rw[if_neg (by decide)];have hp:¬(0≤p∧p≤99):=h.resolve_left (by simp[hin]);refine .en func70 ntmps70 fun St c cs hK=> ?_;refine U9 ?_;refine .c rfl rfl rfl rfl (fun H hs=> .h (IsNumberR_c M H s (by omega) true hin)) ?_;refine U8 ?_;refine .c rfl rfl rfl rfl (fun H hs=> .h (In_c M H p 0 99 false (decide_eq_false hp))) ?_;refine U8 ?_;refine .rt hK func70 results70 [_,_] ?_;exact okB
theorem TrainsR_yes(s:List UInt8)(hs1:isNum s=true)(p:Int)(hp:0≤p∧p≤99):
   CallT M 70 #[strV s,.int .i64 p] H (fun v H'=> H.le H'∧∃g:Gl 47 4,v=.tuple ⟨[g.val,.int .i64 0]⟩∧(g.n=s.length∧g.l=trainsL s p)∧∀x∈g.bl,H' x.1=some x.2∧H x.1=none):=by
 have hdg:s.all dig=true∧1≤s.length∧s.length≤3:=by
   have h:=hs1;unfold isNum at h;simp only[Bool.and_eq_true,decide_eq_true_eq] at h;exact⟨h.2,h.1.1,h.1.2⟩
 obtain⟨hdg,hl1,hl3⟩:=hdg;refine .en func70 ntmps70 fun St c cs hK=> ?_;refine U9 ?_;refine .c rfl rfl rfl rfl (fun H hs=> .h (IsNumberR_c M H s (by omega) true hs1)) ?_;refine U8 ?_;refine .c rfl rfl rfl rfl (fun H hs=> .h (In_c M H p 0 99 true (decide_eq_true hp))) ?_;refine U14 ?_;refine Tc.db (Tc.loopInv (σ:= { x:Nat×Gl 47 4//x.1≤s.length∧x.2.n=x.1∧x.2.l=trainsL (s.take x.1) p }) (fun x=> ([(0,strV s),(1,.int .i64 p),(6,x.1.2.val),(7,.int .i64 (x.1.1:Nat))],x.1.2.bl)) (fun x=> s.length-x.1.1) ?_ ⟨(0,Gl.nil 47 4),Nat.zero_le _,rfl,rfl⟩);rintro⟨⟨q,g⟩,hq,hgn,hgl⟩ ih;simp only at hq hgn hgl;show Tc M St _ _ _ _ [(0,strV s),(1,.int .i64 p),(6,g.val),(7,.int .i64 (q:Nat))] g.bl _ _;by_cases c1:q=s.length
 · clear ih;subst c1;rw[List.take_length] at hgl;refine U16 ?_;refine .rt hK func70 results70 [_,_] ?_;exact fun H' hs=> ⟨hs.base,g,rfl,⟨hgn,hgl⟩,fun x hx=> ⟨hs.at_ x (by simp[hx]),hs.out x (by simp[hx])⟩⟩
 · have c2:q<s.length:=by omega
   obtain⟨x,hx⟩:∃x,s[q]? =some x:=⟨_,List.getElem?_eq_getElem c2⟩
   have hdx:dig x=true:=List.all_eq_true.1 hdg x (List.mem_of_getElem? hx);have hix:s[((q:Nat):Int).toNat]? =some x:=by rw[Int.toNat_natCast];exact hx
   have hpo:=fun(H':View)=> pulsesOf_c M H' x hdx;refine U17 ?_;refine .c rfl rfl rfl rfl (fun H hs=> .h (hpo H)) ?_;refine U11 ?_;refine .e (.bs (zz:=fun bs=> ?_));refine .e (Or.append (E:=en) (g:=g) (m:=1) (new:= [.int .i64 (pn x:Nat),.int .i64 (pn x:Nat),.int .i64 p,.int .i64 p]) (yv:=.slice (some ⟨bs,0,none⟩) 1 1) 1 rfl rfl rfl rfl rfl rfl rfl rfl rfl rfl rfl rfl rfl rfl rfl (fun H hs=> SrcAt.of (hs.get (i:=0) rfl) (Nat.le_of_ble_eq_true rfl)) rfl (by omega) rfl (by decide) (fun g2 hn2 hl2=> ?_));refine U8 ?_;exact Tc.db (ih ⟨(q+1,g2),by simp only;omega,by simp only;omega,by simp only;rw[hl2,hgl,trainsL_snoc hx]⟩ (by simp only;omega))
end
theorem strs_at {H:View}{G:Option Addr}{l:List (List UInt8)}(h:StrsAt H G l.length (fun j=> l[j]?.getD [])){j:Nat}(hj:j<l.length):∃b o f gs gt gz y,G=some ⟨b,o,none⟩∧H b=some (f,.cells ⟨gs⟩ gt gz)∧l[j]? =some y∧ldL false 1 gs (o+((j:Nat):Int).toNat*1)=some (strV y):=by
 rcases h with h|⟨b,o,f,gs,gt,gz,h1,h2,h3⟩
 · omega
 · have h4:=h3 j hj;simp only[List.getElem?_eq_getElem hj,Option.getD_some] at h4;exact⟨b,o,f,gs,gt,gz,l[j],h1,h2,List.getElem?_eq_getElem hj,h4⟩
section
variable(M:Md prog)(H:View)
end
theorem nearL_no {l:List (List UInt8)}{s:List UInt8}:nearL l s=false↔∀j y,j<l.length→l[j]? =some y→clash1 y s=false:=by
 unfold nearL;constructor
 · intro h j y hj hy;have h2:firstTo (fun j=> clash1 (l[j]?.getD []) s) l.length=none:=by
     cases q:firstTo (fun j=> clash1 (l[j]?.getD []) s) l.length with
     | none=> rfl
     | some z=> rw[q] at h;cases h
   have:=(firstTo_none _).1 h2 j hj;rw[hy] at this;exact this
 · intro h;have h2:firstTo (fun j=> clash1 (l[j]?.getD []) s) l.length=none:=(firstTo_none _).2 fun j hj=> by
     rw[List.getElem?_eq_getElem hj];exact h j l[j] hj (List.getElem?_eq_getElem hj)
   rw[h2];rfl
theorem nearL_yes {l:List (List UInt8)}{s:List UInt8}{j:Nat}{y:List UInt8}(hy:l[j]? =some y)(h:clash1 y s=true):nearL l s=true:=by
 cases q:nearL l s with
 | true=> rfl
 | false=>
   have:=nearL_no.1 q j y (List.getElem?_eq_some_iff.1 hy).1 hy;rw[h] at this;cases this
theorem costL_take {w:Nat→Int}{l:List (List UInt8)}{i:Nat}{s:List UInt8}(h:l[i]? =some s):costL w (l.take (i+1))=costL w (l.take i)+w i*(takenN s:Nat):=by
 obtain⟨hi,rfl⟩:=List.getElem?_eq_some_iff.1 h;rw[List.take_succ_eq_append_getElem hi,costL_snoc,List.length_take,Nat.min_eq_left (by omega)]
def cheapA(nw:Nat)(w:Nat→Int)(digits most:Int):Int:=if ¬(1≤(nw:Int)∧(nw:Int)≤3) then 2 else if(firstTo (fun j=> !weightOk (w j)) nw).isSome=true∨¬(1≤digits∧digits≤3)∨¬(1≤most∧most≤3) then 1 else 0
section
variable(M:Md prog)(H:View)
theorem apart_c(G:Option Addr)(gc:Nat)(l:List (List UInt8))(hG:StrsAt H G l.length (fun j=> l[j]?.getD []))(hl:l.length≤1000000)(s:List UInt8)(t:Bool)(ht:nearL l s=t):
   CallT M 194 #[.slice G l.length gc,strV s] H (fun v H'=> H.le H'∧v=.bool (!t)):=by
 rw[←ht];clear ht t;refine .en func194 ntmps194 fun St c cs hK=> ?_;refine U10 ?_;refine Tc.db (Tc.loopInv (σ:= { j:Nat//j≤l.length∧∀i y,i<j→l[i]? =some y→clash1 y s=false }) (fun j=> ([(0,.slice G l.length gc),(1,strV s),(5,.int .i64 (j.1:Nat))],[])) (fun j=> l.length-j.1) ?_ ⟨0,Nat.zero_le _,fun i x hi=> absurd hi (Nat.not_lt_zero i)⟩);rintro⟨j,hj,hno⟩ ih;show Tc M St _ _ _ _ [(0,.slice G l.length gc),(1,strV s),(5,.int .i64 (j:Nat))] [] _ _;by_cases c1:j=l.length
 · clear ih;subst c1;rw[nearL_no.2 hno] at hK;refine U14 ?_;refine .rt hK func194 results194 [_] ?_;exact okB
 · have c2:j<l.length:=by omega
   obtain⟨xb,xo,xf,xs,xt,xz,y,rfl,hxb,hy,f4⟩:=strs_at hG c2;have hno2:clash1 y s=false→∀i x,i<j+1→l[i]? =some x→clash1 x s=false:=by
     clear ih;intro h i x hi hx;by_cases q:i=j
     · subst q;rw[hy] at hx;cases hx
       exact h
     · exact hno i x (by omega) hx
   have hcl:clash1 y s=(begins y s||begins s y):=rfl;cases h1:begins y s with
   | true=>
     rw[nearL_yes hy (by rw[hcl,h1];rfl)] at hK;refine U19 ?_;refine .c rfl rfl rfl rfl (fun H hs=> .h (Begins_c M H y s true h1)) ?_;refine U14 ?_;refine .rt hK func194 results194 [_] ?_;exact okB
   | false=>
     cases h2:begins s y with
     | true=>
       rw[nearL_yes hy (by rw[hcl,h2,Bool.or_true])] at hK;refine U19 ?_;refine .c rfl rfl rfl rfl (fun H hs=> .h (Begins_c M H y s false h1)) ?_;refine U6 ?_;refine .c rfl rfl rfl rfl (fun H hs=> .h (Begins_c M H s y true h2)) ?_;refine U7 ?_;refine .rt hK func194 results194 [_] ?_;exact okB
     | false=>
       have hih:=ih ⟨j+1,by omega,hno2 (by rw[hcl,h1,h2];rfl)⟩ (by simp only;omega);clear ih;refine U19 ?_;refine .c rfl rfl rfl rfl (fun H hs=> .h (Begins_c M H y s false h1)) ?_;refine U6 ?_;refine .c rfl rfl rfl rfl (fun H hs=> .h (Begins_c M H s y false h2)) ?_;refine U10 ?_;exact Tc.db (hih)
theorem before_c(G G':Option Addr)(gc gc':Nat)(a b:List (List UInt8))(hG:StrsAt H G a.length (fun j=> a[j]?.getD []))(hG':StrsAt H G' b.length (fun j=> b[j]?.getD []))(hab:a.length=b.length)(hl:a.length≤1000000)(t:Bool)(ht:lexB a b=t):
   CallT M 148 #[.slice G a.length gc,.slice G' b.length gc'] H (fun v H'=> H.le H'∧v=.bool t):=by
 rw[←ht];clear ht t;refine .en func148 ntmps148 fun St c cs hK=> ?_;refine U10 ?_;refine Tc.db (Tc.loopInv (σ:= { j:Nat//j≤a.length∧lexB a b=lexB (a.drop j) (b.drop j) }) (fun j=> ([(0,.slice G a.length gc),(1,.slice G' b.length gc'),(5,.int .i64 (j.1:Nat))],[])) (fun j=> a.length-j.1) ?_ ⟨0,Nat.zero_le _,rfl⟩);rintro⟨j,hj,hno⟩ ih;show Tc M St _ _ _ _ [(0,.slice G a.length gc),(1,.slice G' b.length gc'),(5,.int .i64 (j:Nat))] [] _ _;by_cases c1:j=a.length
 · clear ih;have e:lexB a b=false:=by rw[hno,c1,List.drop_length];rfl
   rw[e] at hK;rw[c1];refine U14 ?_;refine .rt hK func148 results148 [_] ?_;exact okB
 · have c2:j<a.length:=by omega
   have c3:j<b.length:=by omega
   obtain⟨xb,xo,xf,xs,xt,xz,x,rfl,hxb,hx,f4⟩:=strs_at hG c2;obtain⟨yb,yo,yf,ys,yt,yz,y,rfl,hyb,hy,f5⟩:=strs_at hG' c3;have hdx:a.drop j=x::a.drop (j+1):=by
     obtain⟨h1,rfl⟩:=List.getElem?_eq_some_iff.1 hx;exact List.drop_eq_getElem_cons h1
   have hdy:b.drop j=y::b.drop (j+1):=by
     obtain⟨h1,rfl⟩:=List.getElem?_eq_some_iff.1 hy;exact List.drop_eq_getElem_cons h1
   have hst:lexB a b=if x=y then lexB (a.drop (j+1)) (b.drop (j+1)) else Op.bytesLess x y:=by rw[hno,hdx,hdy];rfl
   by_cases q:x=y
   · have f3:RL.strB .neq x y=some (.bool false):=by simp[RL.strB,q]
     rw[if_pos q] at hst;have hih:=ih ⟨j+1,by omega,hst⟩ (by simp only;omega);clear ih;refine U13 ?_;refine Tc.dr [] [] mixed rfl ?_;refine .nn 0 ?_;refine .nn 1 ?_;refine .nn 2 ?_;refine .nn 3 ?_;refine .nn 4 ?_;refine .nn 5 ?_;refine .nn 6 ?_;refine .nn 7 ?_;refine .nn 8 ?_;refine .dn ?_;refine U8 ?_;exact Tc.db (hih)
   · have f3:RL.strB .neq x y=some (.bool true):=by simp[RL.strB,q]
     have f6:RL.strB .lss x y=some (.bool (Op.bytesLess x y)):=rfl;rw[if_neg q] at hst;rw[hst] at hK;clear ih;refine U13 ?_;refine Tc.dr [] [] mixed rfl ?_;refine .nn 0 ?_;refine .nn 1 ?_;refine .nn 2 ?_;refine .nn 3 ?_;refine .nn 4 ?_;refine .nn 5 ?_;refine .nn 6 ?_;refine .nn 7 ?_;refine .nn 8 ?_;refine .dn ?_;refine U2 ?_;refine Tc.dr [] [] mixed rfl ?_;refine .nn 0 ?_;refine .nn 1 ?_;refine .nn 2 ?_;refine .nn 3 ?_;refine .nn 4 ?_;refine .nn 5 ?_;refine .nn 6 ?_;refine .nn 7 ?_;refine .nn 8 ?_;refine .nn 9 ?_;refine .dn ?_;refine .rt hK func148 results148 [_] ?_;exact okB
theorem cost_c(A:Option Addr)(nw wc:Nat)(w:Nat→Int)(hA:FreeAt H A nw w)(hw:∀i,i<nw→0≤w i∧w i≤99)(G:Option Addr)(gc:Nat)(l:List (List UInt8))(hG:StrsAt H G l.length (fun j=> l[j]?.getD []))(hl:l.length≤nw)(hn:nw≤3)(hd:∀s∈l,s.all dig=true∧s.length≤3):
   CallT M 147 #[.slice A nw wc,.slice G l.length gc] H (fun v H'=> H.le H'∧v=.int .i64 (costL w l)):=by
 refine .en func147 ntmps147 fun St c cs hK=> ?_;refine U14 ?_;refine Tc.db (Tc.loopInv (σ:= { j:Nat//j≤l.length∧0≤costL w (l.take j)∧costL w (l.take j)≤2970*(j:Nat) }) (fun j=> ([(0,.slice A nw wc),(1,.slice G l.length gc),(5,.int .i64 (costL w (l.take j.1))),(6,.int .i64 (j.1:Nat))],[])) (fun j=> l.length-j.1) ?_ ⟨0,Nat.zero_le _,Int.le_refl _,Int.le_refl _⟩);rintro⟨j,hj,hj0,hj1⟩ ih;show Tc M St _ _ _ _ [(0,.slice A nw wc),(1,.slice G l.length gc),(5,.int .i64 (costL w (l.take j))),(6,.int .i64 (j:Nat))] [] _ _;by_cases c1:j=l.length
 · clear ih;have e:l.take j=l:=by rw[c1,List.take_length]
   rw[e,c1];refine U15 ?_;refine .rt hK func147 results147 [_] ?_;exact okB
 · have c2:j<l.length:=by omega
   have c3:j<nw:=by omega
   obtain⟨xb,xo,xf,xs,xt,xz,y,rfl,hxb,hy,f4⟩:=strs_at hG c2;obtain h0|⟨ab,ao,f,gs,gt,gz,rfl,hb,hlw⟩:=hA
   · omega
   have f5:=hlw j c3;obtain⟨hyd,hyl⟩:=hd y (List.mem_of_getElem? hy);have hpo:=fun(H':View)=> PulsesOf_c M H' y hyd (by omega);have ht:=takenN_le y hyd;obtain⟨hm0,hm1⟩:=wmul (a:=w j) (t:=takenN y) (hw j c3) (by omega);have hct:=costL_take (w:=w) hy;have hih:=ih ⟨j+1,by omega,by omega,by omega⟩ (by simp only;omega);simp only[hct] at hih;clear ih hct;have m1:intBin .mul .i64 (w j) ((takenN y:Nat):Int)=some (.int .i64 (w j*(takenN y:Nat))):=mul_in (by omega) (by omega);generalize w j*(takenN y:Nat)=z at hm0 hm1 hih m1;have e1:intBin .add .i64 (costL w (l.take j)) z=some (.int .i64 (costL w (l.take j)+z)):=add_in (by omega) (by omega);refine U12 ?_;refine Tc.dr [] [] mixed rfl ?_;refine .nn 0 ?_;refine .nn 1 ?_;refine .nn 2 ?_;refine .nn 3 ?_;refine .nn 4 ?_;refine .nn 5 ?_;refine .nn 6 ?_;refine .nn 7 ?_;refine .nn 8 ?_;refine .z 9 rfl (OpV.takeCall rfl rfl rfl rfl (fun H hs=> .h (hpo H))) ?_;refine .nn 10 ?_;refine .nn 11 ?_;refine .nn 12 ?_;refine .dn ?_;refine U6 ?_;exact Tc.db (hih)
theorem checkCheap_c(A:Option Addr)(nw wc:Nat)(w:Nat→Int)(hA:FreeAt H A nw w)(hn:nw≤1000)(digits most:Int):
   CallT M 145 #[.slice A nw wc,.int .i64 digits,.int .i64 most] H (fun v H'=> H.le H'∧v=.int .i64 (cheapA nw w digits most)):=by
 by_cases c0:1≤(nw:Int)∧(nw:Int)≤3
 · have e0:cheapA nw w digits most=if(firstTo (fun j=> !weightOk (w j)) nw).isSome=true∨¬(1≤digits∧digits≤3)∨¬(1≤most∧most≤3) then 1 else 0:=if_neg (fun h=> h c0)
   rw[e0];clear e0;refine .en func145 ntmps145 fun St c cs hK=> ?_;refine U9 ?_;refine .c rfl rfl rfl rfl (fun H hs=> .h (In_c M H ((nw:Nat):Int) 1 3 true (decide_eq_true c0))) ?_;refine U10 ?_;refine Tc.db (Tc.loopInv (σ:= { j:Nat//j≤nw∧firstTo (fun i=> !weightOk (w i)) j=none }) (fun j=> ([(0,.slice A nw wc),(1,.int .i64 digits),(2,.int .i64 most),(7,.int .i64 (j.1:Nat))],[])) (fun j=> nw-j.1) ?_ ⟨0,Nat.zero_le _,rfl⟩);rintro⟨j,hj,hno⟩ ih;show Tc M St _ _ _ _ [(0,.slice A nw wc),(1,.int .i64 digits),(2,.int .i64 most),(7,.int .i64 (j:Nat))] [] _ _;by_cases c1:j=nw
   · clear ih;subst c1;rw[hno] at hK;by_cases c2:1≤digits∧digits≤3
     · by_cases c3:1≤most∧most≤3
       · rw[if_neg (by rintro(h|h|h);cases h;exact h c2;exact h c3)] at hK;refine U14 ?_;refine .c rfl rfl rfl rfl (fun H hs=> .h (In_c M H digits 1 3 true (decide_eq_true c2))) ?_;refine U3 ?_;refine .c rfl rfl rfl rfl (fun H hs=> .h (In_c M H most 1 3 true (decide_eq_true c3))) ?_;refine U9 ?_;refine .rt hK func145 results145 [_] ?_;exact okB
       · rw[if_pos (.inr (.inr c3))] at hK;refine U14 ?_;refine .c rfl rfl rfl rfl (fun H hs=> .h (In_c M H digits 1 3 true (decide_eq_true c2))) ?_;refine U3 ?_;refine .c rfl rfl rfl rfl (fun H hs=> .h (In_c M H most 1 3 false (decide_eq_false c3))) ?_;refine U8 ?_;refine .rt hK func145 results145 [_] ?_;exact okB
     · rw[if_pos (.inr (.inl c2))] at hK;refine U14 ?_;refine .c rfl rfl rfl rfl (fun H hs=> .h (In_c M H digits 1 3 false (decide_eq_false c2))) ?_;refine U12 ?_;refine .rt hK func145 results145 [_] ?_;exact okB
   · have c2:j<nw:=by omega
     obtain h0|⟨ab,ao,f,gs,gt,gz,rfl,hb,hl⟩:=hA
     · omega
     have f1:=hl j c2;cases hpp:weightOk (w j) with
     | true=>
       have hih:=ih ⟨j+1,by omega,by simp[firstTo,hno,hpp]⟩ (by simp only;omega);clear ih;have c3:0≤w j∧w j≤99:=of_decide_eq_true hpp;refine U18 ?_;refine .c rfl rfl rfl rfl (fun H hs=> .h (In_c M H (w j) 0 99 true (decide_eq_true c3))) ?_;refine U10 ?_;exact Tc.db (hih)
     | false=>
       clear ih;have e:firstTo (fun i=> !weightOk (w i)) nw=some j:=firstTo_stays (j:=j+1) (by simp[firstTo,hno,hpp]) _ (by omega);rw[e,if_pos (.inl rfl)] at hK;have c3:¬(0≤w j∧w j≤99):=of_decide_eq_false hpp;refine U18 ?_;refine .c rfl rfl rfl rfl (fun H hs=> .h (In_c M H (w j) 0 99 false (decide_eq_false c3))) ?_;refine U7 ?_;refine .rt hK func145 results145 [_] ?_;exact okB
 · have e0:cheapA nw w digits most=2:=if_pos c0;rw[e0];refine .en func145 ntmps145 fun St c cs hK=> ?_;refine U9 ?_;refine .c rfl rfl rfl rfl (fun H hs=> .h (In_c M H ((nw:Nat):Int) 1 3 false (decide_eq_false c0))) ?_;refine U7 ?_;refine .rt hK func145 results145 [_] ?_;exact okB
end
section
variable(M:Md prog)(H:View)
end
theorem allFrom_pre(dg:List UInt8):∀(d:Nat) (s:List UInt8),allFrom dg d s=(allL dg d).map (s++·)
 | 0,s=> by simp[allFrom,allL]
 | d+1,s=> by
   have h1:=fun x=> allFrom_pre dg d (s++[x]);have h2:=fun x=> allFrom_pre dg d [x];show dg.flatMap (fun x=> allFrom dg d (s++[x]))=(dg.flatMap fun x=> allFrom dg d ([]++[x])).map (s++·);simp only[List.nil_append,h1,h2,List.map_flatMap,List.map_map]
   congr 1
   funext x
   congr 1
   funext y
   simp
theorem flat_le {α β:Type}{f:α→List β}{K:Nat}(h:∀x,(f x).length≤K):∀l:List α,(l.flatMap f).length≤l.length*K
 | []=> Nat.zero_le _
 | x::l=> by
   rw[List.flatMap_cons,List.length_append,List.length_cons,Nat.succ_mul];have h1:=h x;have h2:=flat_le h l;omega
theorem allLen(dg:List UInt8)(hd:dg.length≤10):∀d,(allL dg d).length≤10 ^ d
 | 0=> Nat.le_refl _
 | d+1=> by
   show(dg.flatMap fun x=> allFrom dg d ([]++[x])).length≤_;have h1:=flat_le (f:=fun x=> allFrom dg d ([]++[x])) (K:=10 ^ d) (fun x=> by rw[allFrom_pre,List.length_map];exact allLen dg hd d) dg;rw[Nat.pow_succ,Nat.mul_comm];exact Nat.le_trans h1 (Nat.mul_le_mul_right _ hd)
def byts(a n:Nat):List UInt8:=(List.range' a n).map UInt8.ofNat
theorem byts_at {a n i:Nat}(h:i<n):(byts a n)[i]? =some (UInt8.ofNat (a+i)):=by
 unfold byts;rw[List.getElem?_map,List.getElem?_range' h];simp
theorem byts_len(a n:Nat):(byts a n).length=n:=by unfold byts;rw[List.length_map,List.length_range']
def numsB(dg:List UInt8)(d i:Nat):List (List UInt8):=(dg.take i).flatMap fun x=> allFrom dg d [x]
def numsC(dg:List UInt8)(d i:Nat)(x:UInt8)(j:Nat):List (List UInt8):=numsB dg d i++((allL dg d).take j).map ([x]++·)
theorem numsB_all(dg:List UInt8)(d:Nat):numsB dg d dg.length=allL dg (d+1):=by
 unfold numsB;rw[List.take_length];rfl
theorem numsC_zero(dg:List UInt8)(d i:Nat)(x:UInt8):numsC dg d i x 0=numsB dg d i:=by simp[numsC]
theorem numsC_all {dg:List UInt8}{d i:Nat}{x:UInt8}(h:dg[i]? =some x):numsC dg d i x (allL dg d).length=numsB dg d (i+1):=by
 unfold numsC numsB;rw[List.take_length,List.take_add_one,h,List.flatMap_append,←allFrom_pre];simp
theorem numsC_succ {dg:List UInt8}{d i j:Nat}{x:UInt8}{y:List UInt8}(h:(allL dg d)[j]? =some y):numsC dg d i x (j+1)=numsC dg d i x j++[[x]++y]:=by
 unfold numsC;rw[List.take_add_one,h,List.map_append,List.append_assoc];rfl
theorem numsC_le {dg:List UInt8}(hd:dg.length≤10){d:Nat}(h2:d≤2)(i:Nat)(x:UInt8)(j:Nat):(numsC dg d i x j).length≤2000:=by
 have h3:(allL dg d).length≤100:=Nat.le_trans (allLen dg hd d) (by rcases(by omega:d=0∨d=1∨d=2) with rfl|rfl|rfl <;> decide);have h1:=flat_le (f:=fun x=> allFrom dg d [x]) (K:=100) (fun x=> by rw[allFrom_pre,List.length_map];exact h3) (dg.take i);unfold numsC numsB;rw[List.length_append,List.length_map,List.length_take];rw[List.length_take] at h1;have h4:min i dg.length*100≤10*100:=Nat.mul_le_mul_right _ (by omega);omega
theorem u8_128:∀x:Nat,x<128→IntKind.u8.wrap (x:Int)=(x:Int):=by decide +kernel
section
variable(M:Md prog)
theorem Numbers_c(a n b:Nat)(hn:n≤10)(hb:a+n=b+1)(hb2:b≤100):∀(many:Nat) (_:many≤3) (H:View),
   CallT M 129 #[.int .i64 (many:Nat),.int .u8 (a:Nat),.int .u8 (b:Nat)] H (fun v H'=> H.le H'∧∃(G:Option Addr) (c:Nat),v=.slice G (allL (byts a n) many).length c∧StrsAt H' G (allL (byts a n) many).length (fun j=> (allL (byts a n) many)[j]?.getD []))
 | 0,_,H=> by
   refine .en func129 ntmps129 fun St c cs hK=> ?_;refine U13 ?_;refine .e (.bs (zz:=fun bs=> ?_));refine U2 ?_;refine .rt hK func129 results129 [_] ?_;refine fun H' hs=> ⟨hs.base,some ⟨bs,0,none⟩,1,rfl,?_⟩
   have h:SrcAt H' 1 (.slice (some ⟨bs,0,none⟩) 1 1) 1 (strsV [[]]):=SrcAt.of (hs.get (i:=0) rfl) (Nat.le_of_ble_eq_true rfl);exact strs_src (l:= [[]]) h rfl
 | d + 1,hd3,H=> by
   have IH:=fun H'=> Numbers_c a n b hn hb hb2 d (by omega) H';have hdl:(byts a n).length≤10:=by rw[byts_len];exact hn
   have w1:intBin .sub .i64 ((d+1:Nat):Int) 1=some (.int .i64 (d:Nat)):=by rw[sub_in (by omega) (by omega)];congr 2;omega
   have w2:¬((d+1:Nat):Int)=0:=by omega
   refine .en func129 ntmps129 fun St c cs hK=> ?_;refine U23 ?_;refine Tc.db (Tc.loopB (σ:= { x:Nat×Gl 9 1×View//x.1≤n∧H.le x.2.2∧x.2.1.n=(numsB (byts a n) d x.1).length∧x.2.1.l=strsV (numsB (byts a n) d x.1) }) (fun x=> (x.1.2.2,[(0,.int .i64 ((d+1:Nat):Int)),(1,.int .u8 (a:Nat)),(2,.int .u8 (b:Nat)),(7,x.1.2.1.val),(8,.int .u8 ((a+x.1.1:Nat):Int))],x.1.2.1.bl)) (fun x=> n-x.1.1) ?_ ⟨(0,Gl.nil 9 1,H),Nat.zero_le _,View.le_refl _,rfl,rfl⟩);rintro⟨⟨i,g,H₂⟩,hi,hle,hgn,hgl⟩ ih;simp only at hi hle hgn hgl;show Tc M St _ _ H₂ _ [(0,.int .i64 ((d+1:Nat):Int)),(1,.int .u8 (a:Nat)),(2,.int .u8 (b:Nat)),(7,g.val),(8,.int .u8 ((a+i:Nat):Int))] g.bl _ _;by_cases c1:i=n
   · clear ih;subst c1;have e1:=numsB_all (byts a i) d;rw[byts_len] at e1;rw[e1] at hgn hgl;refine U14 ?_;refine .rt hK func129 results129 [_] ?_;refine fun H' hs=> ⟨View.le_trans hle hs.base,g.blk.map fun b=> ⟨b,0,none⟩,g.cap,by rw[←hgn];rfl,?_⟩
     have h:=g.src (H:=H') (fun x hx=> hs.at_ x hx);rw[hgl] at h;unfold Gl.val at h;rw[hgn] at h;exact strs_src h rfl
   · have c2:i<n:=by omega
     have hx:=byts_at (a:=a) c2;have hxe:((a+i:Nat):Int)=(((UInt8.ofNat (a+i)).toNat:Nat):Int):=by rw[UInt8.toNat_ofNat'];omega
     have w3:intBin .add .u8 ((a+i:Nat):Int) 1=some (.int .u8 ((a+(i+1):Nat):Int)):=by
       show some (Value.int _ (IntKind.u8.wrap _))=_;rw[show((a+i:Nat):Int)+1=((a+(i+1):Nat):Int) by omega,u8_128 _ (by omega)]
     have w4:((a+i:Nat):Int)≤((b:Nat):Int):=by omega
     rw[hxe] at w3 w4 ⊢;generalize UInt8.ofNat (a+i)=x at hx w3 w4 ⊢;have hx2:(((x.toNat:Nat):Int))≤((b:Nat):Int):=w4;refine U17 ?_;refine To.callF rfl rfl rfl rfl rfl rfl (by decide) (FnT.h (IH H₂)) (fun v H₃ hv=> ?_);obtain⟨hle3,G,gc,rfl,hG⟩:=hv;have hlen:(allL (byts a n) d).length≤100:=Nat.le_trans (allLen _ hdl d) (by rcases(by omega:d=0∨d=1∨d=2) with rfl|rfl|rfl <;> decide);refine U7 ?_;rw[←numsC_zero _ _ _ x] at hgn hgl;refine Tc.db (Tc.loopInv (σ:= { y:Nat×Gl 9 1//y.1≤(allL (byts a n) d).length∧y.2.n=(numsC (byts a n) d i x y.1).length∧y.2.l=strsV (numsC (byts a n) d i x y.1) }) (fun y=> ([(0,.int .i64 ((d+1:Nat):Int)),(1,.int .u8 (a:Nat)),(2,.int .u8 (b:Nat)),(7,y.1.2.val),(8,.int .u8 ((x.toNat:Nat):Int)),(9,.slice G (allL (byts a n) d).length gc),(10,.int .i64 (y.1.1:Nat))],y.1.2.bl)) (fun y=> (allL (byts a n) d).length-y.1.1) ?_ ⟨(0,g),Nat.zero_le _,hgn,hgl⟩);clear hgn hgl;rintro⟨⟨j,g1⟩,hj,hn1,hl1⟩ ih2;simp only at hj hn1 hl1;show Tc M St _ _ H₃ _ [(0,.int .i64 ((d+1:Nat):Int)),(1,.int .u8 (a:Nat)),(2,.int .u8 (b:Nat)),(7,g1.val),(8,.int .u8 ((x.toNat:Nat):Int)),(9,.slice G (allL (byts a n) d).length gc),(10,.int .i64 (j:Nat))] g1.bl _ _;have hcl:=numsC_le hdl (d:=d) (by omega) i x j;by_cases d1:j=(allL (byts a n) d).length
     · clear ih2;subst d1;rw[numsC_all hx] at hn1 hl1;refine U16 ?_;exact Tc.db (ih ⟨(i+1,g1,H₃),by simp only;omega,View.le_trans hle hle3,hn1,hl1⟩ (by simp only;omega))
     · have d2:j<(allL (byts a n) d).length:=by omega
       obtain⟨xb,xo,xf,xs,xt,xz,y,rfl,hxb,hy,f4⟩:=strs_at hG d2;have hyl:=(mem_allL (List.mem_of_getElem? hy)).1;have hsu:=numsC_succ (i:=i) (x:=x) hy;have q1:RL.strB .add [x] y=some (strV ([x]++y)):=by
         rw[strB_add (by simp only[List.length_singleton];omega)]
       refine U12 ?_;refine Tc.drT [10] [] [] 0 mixed rfl ?_;refine .oo 0 ?_;refine .oo 1 ?_;refine .oo 4 ?_;refine .oo 5 ?_;refine .oo 6 ?_;refine .oo 7 ?_;refine Ta.each [2] (by kernel_rfl) rfl ⟨TaOp.mk rfl rfl rfl (.bs (zz:=fun bb=> ⟨S3.mk (by exact List.nil_sublist _) (.inr (by apply List.Sublist.cons;exact List.Sublist.refl _)),?_⟩)),trivial⟩;refine Ta.each [3] (by kernel_rfl) rfl ⟨TaOp.mk rfl rfl rfl (Or.ofV (OpV.convB (E:=en) (m:=1) (s:= [x]) rfl rfl (fun H hs=> SrcAt.of (hs.get (i:=0) rfl) (Nat.le_of_ble_eq_true rfl)) rfl rfl rfl rfl rfl rfl) rfl (by decide) ⟨S3.mk (by exact List.nil_sublist _) (.inr (by apply List.Sublist.cons;exact List.Sublist.refl _)),?_⟩),trivial⟩;refine .oo 8 ?_;refine Ta.each [9] (by kernel_rfl) rfl ⟨TaOp.mk rfl rfl rfl (.bs (zz:=fun bs=> ⟨S3.mk (by exact List.nil_sublist _) (.inr (by apply List.Sublist.cons;apply List.Sublist.cons;exact List.Sublist.refl _)),?_⟩)),trivial⟩;refine Ta.each [10] (by kernel_rfl) rfl ⟨TaOp.mk rfl rfl rfl (Or.append (E:=en) (g:=g1) (m:=1) (new:= [strV ([x]++y)]) (yv:=.slice (some ⟨bs,0,none⟩) 1 1) 2 rfl rfl rfl rfl rfl rfl rfl rfl rfl rfl rfl rfl rfl rfl rfl (fun H hs=> SrcAt.of (hs.get (i:=0) rfl) (Nat.le_of_ble_eq_true rfl)) rfl (by omega) rfl (by decide) (fun g2 hn2 hl2=> ⟨S3.mk (by exact List.nil_sublist _) (.inl (by kernel_rfl)),?_⟩)),trivial⟩;refine .ow 11 ?_;refine .dn ?_;refine U6 ?_;exact Tc.db (ih2 ⟨(j+1,g2),by simp only;omega,by simp only;rw[hsu,List.length_append,hn2,hn1];rfl,by simp only;rw[hsu,hl2,hl1,strsV_app];rfl⟩ (by simp only;omega))
end
end Go.Proofs.YtdnfdeplcjaonaaGreatDoor
namespace Go.RL
section
variable {P:Program}{E:Env P}{M:Md P}{n:Nat}{H₀:View}{R:Rg}{L:Bl}{K:Rg→Bl→Prop}{o:Oper}{d:Nat}
theorem Or.appendEnd(k:Nat)(Y:Bl){cl:Go.Call}{x y:Operand}{t xt e:TypeId}{sz m:Nat}{yv:Value}{new:List Value}{g:Gl e sz}{r re rx:TyRow}{ex:TypeId}(hop:o.op=.call cl)(hcl:cl.callee=.builtin .append)(hat:cl.argTypes=#[t,xt])(har:cl.args=#[x,y])
   (hx:evR R x=some g.val) (hy:evR R y=some yv) (ht:E.ty t=some r) (hds:r.ds=.slice e) (hre:E.ty e=some re) (hsz:re.size=sz) (hzs:Nat.beq re.zero.cells.toList.length sz=true) (hxt:E.ty xt=some rx) (hex:rx.ds=.slice ex) (hby:Nat.ble re.bytes 1000=true)
   (hL:L.drop k=g.bl++Y) (hsrc:∀H,SymSt H₀ L H→SrcAt H sz yv m new) (hs:new.all single=true) (hm:g.n+m≤1000000000) (hd:o.dst=some d) (hn:d<n)
   (hk:∀g':Gl e sz,g'.n=g.n+m→g'.l=g.l++new→K ((d,g'.val)::R) (L.take k++(Y++g'.bl))):Or M n H₀ R L o K:=
 .val hd hn fun H tmps hst hr=> by
   have hLe:L=L.take k++(g.bl++Y):=by rw[←hL,List.take_append_drop]
   unfold execOp;rw[hop];simp only[resolve,hcl,hat,har];have hm':Array.map (evT tmps) #[x,y]=#[g.val,yv]:=by simp[hr.ev hx,hr.ev hy]
   rw[hm'];have hst0:=hst;rw[hLe] at hst0;have hst2:SymSt H₀ ((L.take k++Y)++g.bl) H:=hst0.perm (mid_perm _ _ _);refine vwp_bind (Builtin.append_ #[t,xt] o.type #[g.val,yv]) _ ?_;refine vwp_append ht hds hre hsz (Nat.eq_of_beq_eq_true hzs) ⟨rx,ex,hxt,hex⟩ (Nat.le_of_ble_eq_true hby) hm (fun z hz=> hst2.at_ z (by simp[hz])) (hsrc H hst) hs fun g' H' h1 h2 h3 h4 h5=> ?_;exact⟨_,rfl,_,(hst2.grown h3 h4 h5).perm (by rw[List.append_assoc]),hk g' h1 h2⟩
end
end Go.RL
