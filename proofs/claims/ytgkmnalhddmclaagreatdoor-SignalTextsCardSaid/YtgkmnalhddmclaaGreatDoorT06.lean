/-
 Texts of the proofs over baudot/dial.
-/
import Derived.Test.YtgkmnalhddmclaaGreatDoorT05
namespace Go.Proofs.YtgkmnalhddmclaaGreatDoor
open Go.RL Go.Proofs.Tryz Go.Conc Go.ConcN Go.RL.Au
open Go.ConcR (stA smA)
open Go.ConcM (muA msA)
set_option maxRecDepth 10000
set_option maxHeartbeats 1000000
section
variable {X:Fk}{κ:Nat}{D:Nat->Bool}{H:View}{cc:Frame}{cs:List Frame}
theorem BN(X:Fk):∃e c,X.X2 X.Wg=some (e,c)/\0<c:=by
 unfold Fk.X2;by_cases h:X.Wg=X.Mu
 ·exact⟨X.tM,2,by simp[h],by decide⟩
 ·exact⟨X.tW,2,by simp[h],by decide⟩
theorem yW(X:Fk):∃e c,X.X2 X.Wg=some (e,c)/\0+1<c:=by
 unfold Fk.X2;by_cases h:X.Wg=X.Mu
 ·exact⟨X.tM,2,by simp[h],by decide⟩
 ·exact⟨X.tW,2,by simp[h],by decide⟩
theorem kw {K:Value->Th->Prop}{k:Nat}:KC false (fun v J'=> ∃k' t',k'<k/\K v t'/\J'=Jw prog X κ k' t' D H):=fun _ _ ⟨_,_,_,_,h⟩=> ⟨_,h▸Jw.QG⟩
noncomputable def A9:Code:=cR (cR (cR (cR (VG Tryz.f101))))
abbrev C9:FB:=⟨101,.normal,none⟩
attribute [local irreducible] IntKind.wrap XD Int.fdiv in
theorem J9 {a b:Nat}(ha:a<8)(hb:b<2)(hq:¬(a=0/\b=1))(hK:Jq prog 0 (G (cc.finish (.tuple #[])) cs)){R:Rg}
  (hR:WB [(0,.pointer (some ⟨X.Wg,0,none⟩)),(1,.int .i64 (-1)),(4,.bool false),(6,.int .u64 ((a*4294967296+b:Nat):Int))] R):
  Sc (Jq prog 1) 117 C9 (cc::cs) R [dcall 141 #[]] [.code A9]:=by
 refine Sc.drop hR ?_;have SJ:=BN X;have f3:=vV;have g1:gA .and .u64 ((a*4294967296+b:Nat):Int) 2147483648=some (.int .u64 0):=by rw[<-aQ a oM b oM];rfl
 have g2:gA .and .u64 ((a*4294967296+b:Nat):Int) 2147483647=some (.int .u64 (b:Int)):=by rw[<-bQ a oM b oM];rfl
 have g3:NC .shr .u64 ((a*4294967296+b:Nat):Int) 32=some (.int .u64 (a:Int)):=by rw[<-cQ a oM b oM];rfl
 have g4:=EW a oM;have g5:=jR b oM;rcases Nat.eq_zero_or_pos a with wU|wU;all_goals rcases Nat.eq_zero_or_pos b with aCB|aCB
 all_goals first
  | (exfalso;omega)
  | (
   refine .sq (.sq (.rg rfl rfl ?_));refine .m ?_;refine .i ?_ (z:=by assumption);refine .i ?_ (z:=DC oM);refine .m ?_;refine .sk ?_;refine .sk ?_;refine .x .pk ?_;refine .dn (.ff rfl (.sp (.sq ?_)));refine Sc.drop (R':= [(0,.pointer (some ⟨X.Wg,0,none⟩)),(1,.int .i64 (-1)),(4,.bool false),(6,.int .u64 ((a*4294967296+b:Nat):Int))]) ⟨rfl,rfl,rfl,rfl,trivial⟩ ?_;refine .rg rfl rfl ?_;refine .m ?_;refine .x (oC.shift rfl rfl rfl oM (by assumption)) ?_;refine .x (oC.conv rfl rfl sG tP (by assumption)) ?_;refine .g ?_;refine .dn (.sq ?_);refine Sc.drop (R':= [(0,.pointer (some ⟨X.Wg,0,none⟩)),(1,.int .i64 (-1)),(6,.int .u64 ((a*4294967296+b:Nat):Int)),(7,.int .i32 (a:Int))]) ⟨rfl,rfl,rfl,rfl,trivial⟩ ?_;refine .rg rfl rfl ?_;refine .m ?_;refine .i ?_ (z:=by assumption);refine .x (oC.conv rfl rfl sG XQ (by assumption)) ?_;refine .g ?_;refine .dn (.sq (.sq ?_));refine Sc.drop (R':= [(0,.pointer (some ⟨X.Wg,0,none⟩)),(1,.int .i64 (-1)),(7,.int .i32 (a:Int)),(8,.int .u32 (b:Int))]) ⟨rfl,rfl,rfl,rfl,trivial⟩ ?_;refine .rg rfl rfl ?_;refine .m ?_;refine .m ?_;refine .i ?_ (z:=UF oM);refine .x .pk ?_;refine .m ?_;refine .sk ?_;refine .sk ?_;refine .sk ?_;refine .sk ?_;refine .x .pk ?_;refine .dn (.ff rfl (.sp (.sq (.sq ?_))));refine Sc.drop (R':= [(0,.pointer (some ⟨X.Wg,0,none⟩)),(1,.int .i64 (-1)),(7,.int .i32 (a:Int)),(8,.int .u32 (b:Int))]) ⟨rfl,rfl,rfl,rfl,trivial⟩ ?_;refine .rg rfl rfl ?_;refine .m ?_;refine .i ?_ (z:=mK oM);refine .dn (.ff rfl (.sp (.sq (.sq ?_))));refine Sc.drop (R':= [(0,.pointer (some ⟨X.Wg,0,none⟩)),(1,.int .i64 (-1)),(7,.int .i32 (a:Int)),(8,.int .u32 (b:Int))]) ⟨rfl,rfl,rfl,rfl,trivial⟩ ?_;refine .rg rfl rfl ?_;refine .m ?_;refine .i ?_ (z:=by first|exact SC oM|exact DC oM);refine .m ?_;first|(refine .sk ?_)|(refine .m ?_)
   first|(refine .sk ?_)|(refine .x (.it (zz:=UF oM)) ?_)
   refine .x .pk ?_;refine .m ?_;refine .sk ?_;refine .sk ?_;refine .sk ?_;refine .sk ?_;refine .x .pk ?_;refine .dn (.ff rfl (.sp (.sq (.sq ?_))));refine Sc.drop (R':= [(0,.pointer (some ⟨X.Wg,0,none⟩)),(1,.int .i64 (-1)),(7,.int .i32 (a:Int)),(8,.int .u32 (b:Int))]) ⟨rfl,rfl,rfl,rfl,trivial⟩ ?_;refine .rg rfl rfl ?_;refine .m ?_;refine .i ?_ (z:=by first|exact zF oM|exact UF oM);refine .m ?_;first|(refine .sk ?_)|(refine .m ?_)
   first|(refine .sk ?_)|(refine .x (.it (zz:=vC oM)) ?_)
   refine .x .pk ?_;refine .dn (.tt rfl ?_);refine Sc.kC Jq.cl rfl (Jq.en gO rfl (Sb.leave Jq.cl func101 rfl (.inl ⟨results101,rfl⟩) hK)))
noncomputable def aDx:Code:=cR (cR (cR (cR (cR (cR (cR A9))))))
attribute [local irreducible] IntKind.wrap XD Int.fdiv in
theorem Y4 {a b k:Nat}(ne:X.Mu≠X.Wg)(a0:a=0)(b1:b=1)(hK:Jq prog 0 (G (cc.finish (.tuple #[])) cs)){R:Rg}
  (hR:WB [(0,.pointer (some ⟨X.Wg,0,none⟩)),(4,.bool false),(6,.int .u64 ((a*4294967296+b:Nat):Int)),(8,.int .u32 (b:Int))] R):Sc (Jw prog X κ k .d2 D H) 117 C9 (cc::cs) R [dcall 141 #[]] [.code aDx]:=by
 refine Sc.drop hR ?_;have SJ:=BN X;have g6:gA .sub .u32 (b:Int) 1=some (.int .u32 0):=by
  rw[b1];exact congrArg (fun x=> some (Value.int .u32 x)) (show IntKind.u32.wrap (((1:Nat):Int)-1)=0 by decide +kernel)
 have g7:gA .neq .u64 1 ((a*4294967296+b:Nat):Int)=some (.bool false):=DC oM;refine .sq (.sq (.rg rfl rfl ?_));refine .m ?_;refine .x .nk ?_;refine .x (.fa (zz:=xF)) ?_;refine So.QA rfl rfl rfl nofun rfl (.mk' rfl) rfl (LU Jw.QG kw (Jw.d2 L9)) ?_;rintro v J' ⟨k5,t,hk5,⟨rfl,rfl⟩,rfl⟩;refine .m ?_;refine .i ?_ (z:=by assumption);refine .dn (.ff rfl (.sp (.sq ?_)));refine Sc.drop (R':= [(0,.pointer (some ⟨X.Wg,0,none⟩)),(4,.bool false),(6,.int .u64 ((a*4294967296+b:Nat):Int)),(8,.int .u32 (b:Int))]) ⟨rfl,rfl,rfl,rfl,trivial⟩ ?_;refine .rg rfl rfl ?_;refine .m ?_;refine .x .nk ?_;refine .x (.fa (zz:=xF)) ?_;refine So.QA rfl rfl rfl nofun rfl (.mk' rfl) rfl (D7 Jw.QG kw (fun v J' ⟨_,_,_,h,_⟩=> h.1) (Jw.d3 ne aDY)) ?_;rintro v J' ⟨k6,t,hk6,⟨rfl,rfl⟩,rfl⟩;refine .dn (.sq (.sq ?_));refine Sc.drop (R':= [(0,.pointer (some ⟨X.Wg,0,none⟩)),(4,.bool false),(6,.int .u64 ((a*4294967296+b:Nat):Int)),(8,.int .u32 (b:Int))]) ⟨rfl,rfl,rfl,rfl,trivial⟩ ?_;refine .rg rfl rfl ?_;refine .m ?_;refine .dn (.ff rfl (.sp (.bl ?_)));refine Sc.loop (by exact Jw.QG) ?_;refine .sq (.sq (.rg rfl rfl ?_));refine .m ?_;refine .i ?_ (z:=SC oM);refine .dn (.tt rfl (.sp (.sq (.bl ?_))));refine Sc.drop (R':= [(0,.pointer (some ⟨X.Wg,0,none⟩)),(4,.bool false),(6,.int .u64 ((a*4294967296+b:Nat):Int)),(8,.int .u32 (b:Int))]) ⟨rfl,rfl,rfl,rfl,trivial⟩ ?_;refine .rg rfl rfl ?_;refine .m ?_;refine .x .nk ?_;refine .x (.fa (zz:=eK)) ?_;refine So.QA rfl rfl rfl nofun rfl (.mk' rfl) rfl (Jw.d4 (vs:= [.pointer (some ⟨X.Wg,1,none⟩),.bool false,.int .i64 0]) ne aDU rfl) ?_;rintro v J' ⟨k7,t,hk7,⟨rfl,rfl⟩,rfl⟩;refine So.mono ?_ (fun g=> Jq.jw);refine .dn (.ib ?_);refine Sc.drop (R':= [(0,.pointer (some ⟨X.Wg,0,none⟩)),(4,.bool false),(6,.int .u64 ((a*4294967296+b:Nat):Int)),(8,.int .u32 (b:Int))]) ⟨rfl,rfl,rfl,rfl,trivial⟩ ?_;refine .rg rfl rfl ?_;refine .m ?_;refine .i ?_ (z:=by assumption);refine .g ?_;refine .dn ?_;refine Sc.inLoop (by exact Jq.cl) ?_;refine Sc.drop (R':= [(8,.int .u32 0)]) ⟨rfl,trivial⟩ ?_;refine .sq (.sq (.rg rfl rfl ?_));refine .m ?_;refine .i ?_ (z:=DC oM);refine .dn (.ff rfl (.xt rfl ?_));refine Sc.over Jq.cl rfl (Jq.en gO rfl (Sb.leave Jq.cl func101 rfl (.inl ⟨results101,rfl⟩) hK))
attribute [local irreducible] IntKind.wrap XD Int.fdiv in
theorem I9 {a b k:Nat}(ne:X.Mu≠X.Wg)(a0:a=0)(b1:b=1)(hK:Jq prog 0 (G (cc.finish (.tuple #[])) cs)){R:Rg}
  (hR:WB [(0,.pointer (some ⟨X.Wg,0,none⟩)),(1,.int .i64 (-1)),(4,.bool false),(6,.int .u64 ((a*4294967296+b:Nat):Int))] R):Sc (Jw prog X κ k .d2 D H) 117 C9 (cc::cs) R [dcall 141 #[]] [.code A9]:=by
 refine Sc.drop hR ?_;have SJ:=BN X;have f3:=vV;have g1:gA .and .u64 ((a*4294967296+b:Nat):Int) 2147483648=some (.int .u64 0):=by rw[<-aQ a oM b oM];rfl
 have g2:gA .and .u64 ((a*4294967296+b:Nat):Int) 2147483647=some (.int .u64 (b:Int)):=by rw[<-bQ a oM b oM];rfl
 have g3:NC .shr .u64 ((a*4294967296+b:Nat):Int) 32=some (.int .u64 (a:Int)):=by rw[<-cQ a oM b oM];rfl
 have g4:=EW a oM;have g5:=jR b oM;refine .sq (.sq (.rg rfl rfl ?_));refine .m ?_;refine .i ?_ (z:=by assumption);refine .i ?_ (z:=DC oM);refine .m ?_;refine .sk ?_;refine .sk ?_;refine .x .pk ?_;refine .dn (.ff rfl (.sp (.sq ?_)));refine Sc.drop (R':= [(0,.pointer (some ⟨X.Wg,0,none⟩)),(1,.int .i64 (-1)),(4,.bool false),(6,.int .u64 ((a*4294967296+b:Nat):Int))]) ⟨rfl,rfl,rfl,rfl,trivial⟩ ?_;refine .rg rfl rfl ?_;refine .m ?_;refine .x (oC.shift rfl rfl rfl oM (by assumption)) ?_;refine .x (oC.conv rfl rfl sG tP (by assumption)) ?_;refine .g ?_;refine .dn (.sq ?_);refine Sc.drop (R':= [(0,.pointer (some ⟨X.Wg,0,none⟩)),(1,.int .i64 (-1)),(4,.bool false),(6,.int .u64 ((a*4294967296+b:Nat):Int)),(7,.int .i32 (a:Int))]) ⟨rfl,rfl,rfl,rfl,rfl,trivial⟩ ?_;refine .rg rfl rfl ?_;refine .m ?_;refine .i ?_ (z:=by assumption);refine .x (oC.conv rfl rfl sG XQ (by assumption)) ?_;refine .g ?_;refine .dn (.sq (.sq ?_));refine Sc.drop (R':= [(0,.pointer (some ⟨X.Wg,0,none⟩)),(1,.int .i64 (-1)),(4,.bool false),(6,.int .u64 ((a*4294967296+b:Nat):Int)),(7,.int .i32 (a:Int)),(8,.int .u32 (b:Int))]) ⟨rfl,rfl,rfl,rfl,rfl,rfl,trivial⟩ ?_;refine .rg rfl rfl ?_;refine .m ?_;refine .m ?_;refine .i ?_ (z:=UF oM);refine .x .pk ?_;refine .m ?_;refine .sk ?_;refine .sk ?_;refine .sk ?_;refine .sk ?_;refine .x .pk ?_;refine .dn (.ff rfl (.sp (.sq (.sq ?_))));refine Sc.drop (R':= [(0,.pointer (some ⟨X.Wg,0,none⟩)),(1,.int .i64 (-1)),(4,.bool false),(6,.int .u64 ((a*4294967296+b:Nat):Int)),(7,.int .i32 (a:Int)),(8,.int .u32 (b:Int))]) ⟨rfl,rfl,rfl,rfl,rfl,rfl,trivial⟩ ?_;refine .rg rfl rfl ?_;refine .m ?_;refine .i ?_ (z:=mK oM);refine .dn (.ff rfl (.sp (.sq (.sq ?_))));refine Sc.drop (R':= [(0,.pointer (some ⟨X.Wg,0,none⟩)),(1,.int .i64 (-1)),(4,.bool false),(6,.int .u64 ((a*4294967296+b:Nat):Int)),(7,.int .i32 (a:Int)),(8,.int .u32 (b:Int))]) ⟨rfl,rfl,rfl,rfl,rfl,rfl,trivial⟩ ?_;refine .rg rfl rfl ?_;refine .m ?_;refine .i ?_ (z:=SC oM);refine .m ?_;refine .m ?_;refine .i ?_ (z:=UF oM);refine .x .pk ?_;refine .m ?_;refine .sk ?_;refine .sk ?_;refine .sk ?_;refine .sk ?_;refine .x .pk ?_;refine .dn (.ff rfl (.sp (.sq (.sq ?_))));refine Sc.drop (R':= [(0,.pointer (some ⟨X.Wg,0,none⟩)),(1,.int .i64 (-1)),(4,.bool false),(6,.int .u64 ((a*4294967296+b:Nat):Int)),(7,.int .i32 (a:Int)),(8,.int .u32 (b:Int))]) ⟨rfl,rfl,rfl,rfl,rfl,rfl,trivial⟩ ?_;refine .rg rfl rfl ?_;refine .m ?_;refine .i ?_ (z:=UF oM);refine .m ?_;refine .m ?_;refine .i ?_ (z:=CB oM);refine .x .pk ?_;refine .dn (.ff rfl (.sp ?_));exact Y4 ne a0 b1 hK ⟨rfl,rfl,rfl,rfl,trivial⟩
attribute [local irreducible] IntKind.wrap XD Int.fdiv in
theorem Z4 {k:Nat}(ne:X.Mu≠X.Wg):PD (Jw prog X κ k .wr D H) 101 [.pointer (some ⟨X.Wg,0,none⟩),.int .i64 (-1)] fun v J'=> v=.tuple #[]/\J'=Jq prog 0:=by
 refine NJ.at (by exact Jw.RG rfl) W7 (NJ.enter (vs:= [.pointer (some ⟨X.Wg,0,none⟩),.int .i64 (-1)]) func101 rfl ntmps101 (Nat.le_of_ble_eq_true rfl) fun c cs hK=> ?_);have SJ:=BN X;have f1:=aBD;have f2:=w7;have f3:=vV;refine .sq (.tt rfl (.sq (.sq (.rg rfl rfl ?_))));refine .m ?_;refine .i ?_ (z:=bP oM);refine .dn (.tt rfl (.rg rfl rfl ?_));refine .m ?_;refine .x (oC.raw rfl rfl rV qI lV (by assumption)) ?_;refine So.QA rfl rfl rfl nofun rfl (.mk' rfl) rfl (Jw.wr aCd) ?_;rintro v J' ⟨rfl,k1,nU,rfl⟩;refine .dn (.sq (.rg rfl rfl ?_));refine So.QA rfl rfl rfl nofun rfl (.mk' rfl) rfl (Jw.wk RY) ?_;rintro v J' ⟨k2,t,nO,⟨rfl,rfl⟩,rfl⟩;refine .dn (.rg rfl rfl ?_);refine So.defer Jw.QG (f:=141) (vs:= []) rfl nofun rfl rfl ⟨_,rfl⟩ rfl ?_;refine .dn (.sq ?_);refine Sc.drop (R':= [(0,.pointer (some ⟨X.Wg,0,none⟩)),(1,.int .i64 (-1))]) ⟨rfl,rfl,trivial⟩ ?_;refine .rg rfl rfl ?_;refine .g ?_;refine .dn (.sq (.sq (.rg rfl rfl ?_)));refine So.QA rfl rfl rfl nofun rfl (.mk' rfl) rfl (Jw.wi aCe) ?_;rintro v J' ⟨k3,t,K8,⟨rfl,rfl⟩,rfl⟩;refine .dn (.ff rfl (.sp (.sq ?_)));refine Sc.drop (R':= [(0,.pointer (some ⟨X.Wg,0,none⟩)),(1,.int .i64 (-1)),(4,.bool false)]) ⟨rfl,rfl,rfl,trivial⟩ ?_;refine .rg rfl rfl ?_;refine .m ?_;refine .x .nk ?_;refine .x (.fa (zz:=xF)) ?_;refine .m ?_;refine .x (oC.conv rfl rfl J7 sG (by assumption)) ?_;refine .x (oC.shift rfl rfl rfl oM (by assumption)) ?_;refine So.QA rfl rfl rfl nofun rfl (.mk' rfl) rfl (R7 Jw.QG kw (Jw.d1 ne aCf)) ?_;rintro v J' ⟨k4,t,hk4,⟨a,b,ha,hb,rfl,rfl⟩,rfl⟩;by_cases hq:a=0/\b=1
 ·rw[if_pos hq];refine .g ?_;refine .dn ?_;exact I9 ne hq.1 hq.2 (hK _ _ ⟨rfl,rfl⟩) ⟨rfl,rfl,rfl,rfl,trivial⟩
 ·rw[if_neg hq];refine So.mono ?_ (fun g=> Jq.jw);refine .g ?_;refine .dn ?_;exact J9 oM oM hq (hK _ _ ⟨rfl,rfl⟩) ⟨rfl,rfl,rfl,rfl,trivial⟩
theorem K9 {k n:Nat}{b:FB}{R:Rg}{ds:List Deferred}(hb:b.rd=none)(ne:X.Mu≠X.Wg)
  (h:Sb (Jq prog 0) n b cs R ds):Sb (Jw prog X κ k .wr D H) n b cs R (dcall 103 #[.pointer (some ⟨X.Wg,0,none⟩)]::ds):=by
 refine Sb.TY (vs:= [.pointer (some ⟨X.Wg,0,none⟩)]) Jw.QG hb func103 kR rfl ntmps103 (Nat.le_of_ble_eq_true rfl) fun c hm hc=> ?_;refine .rg rfl rfl ?_;refine .m ?_;refine So.QA rfl rfl rfl nofun rfl (.mk' rfl) rfl (Z4 ne) ?_;rintro v J' ⟨rfl,rfl⟩;refine .dn ?_;refine Sc.over Jq.cl rfl (Sb.leaveD Jq.cl func103 rfl results103 (.inl hm) (hc _ h))
end
section
variable {X:Fk}{H:View}{Fin:Goroutine->Prop}{j:Nat}{cc:Frame}{cs:List Frame}
theorem km {K:Value->Mn->Prop}{k:Nat}:KC true (fun v J'=> ∃k' m',k'<k/\K v m'/\J'=Jm prog X Fin k' m' j H):=fun _ _ ⟨_,_,_,_,h⟩=> ⟨_,h▸Jm.cl⟩
theorem aDo:IntKind.i32.wrap 1=1:=by decide +kernel
attribute [local irreducible] IntKind.wrap XD Int.fdiv in
theorem CY {k:Nat}(ne:X.Mu≠X.Wg):PD (Jm prog X Fin k .kd j H) 101 [.pointer (some ⟨X.Wg,0,none⟩),.int .i64 1] fun v J'=> v=.tuple #[]/\∃k',J'=Jm prog X Fin k' .go j H:=by
 refine NJ.at (by exact Jm.cl) W7 (NJ.enter (vs:= [.pointer (some ⟨X.Wg,0,none⟩),.int .i64 1]) func101 rfl ntmps101 (Nat.le_of_ble_eq_true rfl) fun c cs hK=> ?_);have SJ:=yW X;have f1:=aDp;have f2:=aBs;have f3:=aDo;refine .sq (.tt rfl (.sq (.sq (.rg rfl rfl ?_))));refine .m ?_;refine .i ?_ (z:=mK oM);refine .dn (.ff rfl (.sp (.sq (.rg rfl rfl ?_))));refine So.QA rfl rfl rfl nofun rfl (.mk' rfl) rfl (Jm.kd RY) ?_;rintro v J' ⟨k2,t,nO,⟨rfl,rfl⟩,rfl⟩;refine .dn (.rg rfl rfl ?_);refine So.defer Jm.cl (f:=141) (vs:= []) rfl nofun rfl rfl ⟨_,rfl⟩ rfl ?_;refine .dn (.sq (.rg rfl rfl ?_));refine .g ?_;refine .dn (.sq (.sq (.rg rfl rfl ?_)));refine So.QA rfl rfl rfl nofun rfl (.mk' rfl) rfl (Jm.ki aCe) ?_;rintro v J' ⟨k3,t,K8,⟨rfl,rfl⟩,rfl⟩;refine .dn (.ff rfl (.sp (.sq (.rg rfl rfl ?_))));refine .m ?_;refine .x .nk ?_;refine .x (.fa (zz:=xF)) ?_;refine .m ?_;refine .x (oC.conv rfl rfl J7 sG (by assumption)) ?_;refine .x (oC.shift rfl rfl rfl oM (by assumption)) ?_;refine So.QA rfl rfl rfl nofun rfl (.mk' rfl) rfl (R7 Jm.cl km (Jm.ka ne aCf)) ?_;rintro v J' ⟨k4,t,hk4,⟨a,ha,rfl,rfl⟩,rfl⟩;have e0:(((a+1)*4294967296:Nat):Int)=(((a+1)*4294967296+0:Nat):Int):=(congrArg (fun x:Nat=> (x:Int)) (Nat.add_zero _)).symm;have g1:gA .and .u64 (((a+1)*4294967296:Nat):Int) 2147483648=some (.int .u64 0):=by rw[e0,<-aQ (a+1) oM 0 oM];rfl
 have g2:gA .and .u64 (((a+1)*4294967296:Nat):Int) 2147483647=some (.int .u64 0):=by
  have:=bQ (a+1) oM 0 oM;rw[e0];exact congrArg (fun x=> some (Value.int .u64 x)) this
 have g3:NC .shr .u64 (((a+1)*4294967296:Nat):Int) 32=some (.int .u64 ((a+1:Nat):Int)):=by rw[e0,<-cQ (a+1) oM 0 oM];rfl
 have g4:=EW (a+1) oM;have g5:IntKind.u32.wrap 0=0:=jR 0 oM;have gg:(0:Int)<((a+1:Nat):Int):=by omega
 refine .g ?_;refine .dn ?_;refine Sc.drop (R':= [(0,.pointer (some ⟨X.Wg,0,none⟩)),(1,.int .i64 1),(4,.bool false),(6,.int .u64 (((a+1)*4294967296:Nat):Int))]) ⟨rfl,rfl,rfl,rfl,trivial⟩ ?_;refine .sq (.sq (.rg rfl rfl ?_));refine .m ?_;refine .i ?_ (z:=by assumption);refine .i ?_ (z:=DC oM);refine .m ?_;refine .sk ?_;refine .sk ?_;refine .x .pk ?_;refine .dn (.ff rfl (.sp (.sq ?_)));refine Sc.drop (R':= [(0,.pointer (some ⟨X.Wg,0,none⟩)),(1,.int .i64 1),(4,.bool false),(6,.int .u64 (((a+1)*4294967296:Nat):Int))]) ⟨rfl,rfl,rfl,rfl,trivial⟩ ?_;refine .rg rfl rfl ?_;refine .m ?_;refine .x (oC.shift rfl rfl rfl oM (by assumption)) ?_;refine .x (oC.conv rfl rfl sG tP (by assumption)) ?_;refine .g ?_;refine .dn ?_;refine Sc.drop (R':= [(0,.pointer (some ⟨X.Wg,0,none⟩)),(1,.int .i64 1),(4,.bool false),(6,.int .u64 (((a+1)*4294967296:Nat):Int)),(7,.int .i32 ((a+1:Nat):Int))]) ⟨rfl,rfl,rfl,rfl,rfl,trivial⟩ ?_;refine .sq (.rg rfl rfl ?_);refine .m ?_;refine .i ?_ (z:=by assumption);refine .x (oC.conv rfl rfl sG XQ (by assumption)) ?_;refine .g ?_;refine .dn ?_;refine Sc.drop (R':= [(0,.pointer (some ⟨X.Wg,0,none⟩)),(1,.int .i64 1),(4,.bool false),(7,.int .i32 ((a+1:Nat):Int)),(8,.int .u32 0)]) ⟨rfl,rfl,rfl,rfl,rfl,trivial⟩ ?_;refine .sq (.sq ?_);by_cases hz:a=0
 ·rw[if_pos hz];have q1:gA .eql .i32 ((a+1:Nat):Int) 1=some (.bool true):=vC oM;refine .rg rfl rfl ?_;refine .m ?_;refine .m ?_;refine .i ?_ (z:=zF oM);refine .x .pk ?_;refine .m ?_;refine .m ?_;refine .m ?_;refine .x (oC.conv rfl rfl J7 tP (by assumption)) ?_;refine .i ?_ (z:=by assumption);refine .x .pk ?_;refine .dn (.tt rfl ?_);refine Sc.drop (R':= [(0,.pointer (some ⟨X.Wg,0,none⟩)),(1,.int .i64 1),(4,.bool false),(7,.int .i32 ((a+1:Nat):Int)),(8,.int .u32 0)]) ⟨rfl,rfl,rfl,rfl,rfl,trivial⟩ ?_;refine .rg rfl rfl ?_;refine .m ?_;refine .x .nk ?_;refine .x (.fa (zz:=eK)) ?_;refine .x (oC.raw rfl rfl J1 qI B1 (by assumption)) ?_;refine So.QA rfl rfl rfl nofun rfl (.mk' rfl) rfl (Jm.kr aDT) ?_;rintro v J' ⟨rfl,k5,hk5,rfl⟩;refine .dn ?_;refine Sc.drop (R':= [(0,.pointer (some ⟨X.Wg,0,none⟩)),(1,.int .i64 1),(4,.bool false),(7,.int .i32 ((a+1:Nat):Int)),(8,.int .u32 0)]) ⟨rfl,rfl,rfl,rfl,rfl,trivial⟩ ?_;refine .sq (.sq (.rg rfl rfl ?_));refine .m ?_;refine .i ?_ (z:=mK oM);refine .dn (.ff rfl (.sp (.sq (.sq (.rg rfl rfl ?_)))));refine .m ?_;refine .i ?_ (z:=DC oM);refine .m ?_;refine .sk ?_;refine .sk ?_;refine .x .pk ?_;refine .m ?_;refine .sk ?_;refine .sk ?_;refine .sk ?_;refine .sk ?_;refine .x .pk ?_;refine .dn (.ff rfl (.sp (.sq (.sq ?_))));refine Sc.drop (R':= [(0,.pointer (some ⟨X.Wg,0,none⟩)),(1,.int .i64 1),(4,.bool false),(7,.int .i32 ((a+1:Nat):Int)),(8,.int .u32 0)]) ⟨rfl,rfl,rfl,rfl,rfl,trivial⟩ ?_;refine .rg rfl rfl ?_;refine .m ?_;refine .i ?_ (z:=zF oM);refine .m ?_;refine .sk ?_;refine .sk ?_;refine .x .pk ?_;refine .dn (.tt rfl ?_);refine Sc.kC Jm.cl rfl (Jm.ke gO rfl (fun k' _=> Sb.leave Jm.cl func101 rfl (.inl ⟨results101,rfl⟩) (hK _ _ ⟨rfl,k',rfl⟩)))
 ·rw[if_neg hz];have q1:gA .eql .i32 ((a+1:Nat):Int) 1=some (.bool false):=CB oM;refine .rg rfl rfl ?_;refine .m ?_;refine .m ?_;refine .i ?_ (z:=zF oM);refine .x .pk ?_;refine .m ?_;refine .m ?_;refine .m ?_;refine .x (oC.conv rfl rfl J7 tP (by assumption)) ?_;refine .i ?_ (z:=by assumption);refine .x .pk ?_;refine .dn (.ff rfl (.sp (.sq (.sq ?_))));refine Sc.drop (R':= [(0,.pointer (some ⟨X.Wg,0,none⟩)),(1,.int .i64 1),(4,.bool false),(7,.int .i32 ((a+1:Nat):Int)),(8,.int .u32 0)]) ⟨rfl,rfl,rfl,rfl,rfl,trivial⟩ ?_;refine .rg rfl rfl ?_;refine .m ?_;refine .i ?_ (z:=mK oM);refine .dn (.ff rfl (.sp (.sq (.sq (.rg rfl rfl ?_)))));refine .m ?_;refine .i ?_ (z:=DC oM);refine .m ?_;refine .sk ?_;refine .sk ?_;refine .x .pk ?_;refine .m ?_;refine .sk ?_;refine .sk ?_;refine .sk ?_;refine .sk ?_;refine .x .pk ?_;refine .dn (.ff rfl (.sp (.sq (.sq ?_))));refine Sc.drop (R':= [(0,.pointer (some ⟨X.Wg,0,none⟩)),(1,.int .i64 1),(4,.bool false),(7,.int .i32 ((a+1:Nat):Int)),(8,.int .u32 0)]) ⟨rfl,rfl,rfl,rfl,rfl,trivial⟩ ?_;refine .rg rfl rfl ?_;refine .m ?_;refine .i ?_ (z:=zF oM);refine .m ?_;refine .sk ?_;refine .sk ?_;refine .x .pk ?_;refine .dn (.tt rfl ?_);refine Sc.kC Jm.cl rfl (Jm.ke gO rfl (fun k' _=> Sb.leave Jm.cl func101 rfl (.inl ⟨results101,rfl⟩) (hK _ _ ⟨rfl,k',rfl⟩)))
end
section
variable {X:Fk}{H:View}{Fin:Goroutine->Prop}{j:Nat}{cc:Frame}{cs:List Frame}
noncomputable def aBH:Code:=cB (cB (cR (VG Tryz.f107)))
abbrev aDE:FB:=⟨107,.normal,none⟩
attribute [local irreducible] IntKind.wrap XD Int.fdiv in
theorem eY(hc:Cl prog true NU Fin)(ne:X.Mu≠X.Wg)(hK:Fin (G (cc.finish (.tuple #[])) cs))(k:Nat):∀R:Rg,WB [(0,.pointer (some ⟨X.Wg,0,none⟩))] R->Sc (Jm prog X Fin k .w1 j H) 84 aDE (cc::cs) R [] [.code aBH,.inLoop aBH,.inBlock 0]:=by
 induction k using Nat.strongRecOn with
 | ind k IH=>
  intro R hR;refine Sc.drop hR ?_;have SJ:=BN X;have aES:=yW X;refine Sc.block (by first|exact Jm.cl|exact hc) ?_;refine Sc.seq (by first|exact Jm.cl|exact hc) ?_;refine .rg rfl rfl ?_;refine .m ?_;refine .x .nk ?_;refine .x (.fa (zz:=xF)) ?_;refine So.QA rfl rfl rfl nofun rfl (.mk' rfl) rfl (LU Jm.cl km (Jm.w1 L9)) ?_;rintro v J' ⟨k1,t,nU,⟨a,ha,rfl,rfl⟩,rfl⟩;have e0:((a*4294967296:Nat):Int)=((a*4294967296+0:Nat):Int):=(congrArg (fun x:Nat=> (x:Int)) (Nat.add_zero _)).symm;have g1:gA .and .u64 ((a*4294967296:Nat):Int) 2147483648=some (.int .u64 0):=by rw[e0,<-aQ a oM 0 oM];rfl
  have g2:gA .and .u64 ((a*4294967296:Nat):Int) 2147483647=some (.int .u64 0):=by
   have:=bQ a oM 0 oM;rw[e0];exact congrArg (fun x=> some (Value.int .u64 x)) this
  have g3:NC .shr .u64 ((a*4294967296:Nat):Int) 32=some (.int .u64 (a:Int)):=by rw[e0,<-cQ a oM 0 oM];rfl
  have g4:=EW a oM;have g5:IntKind.u32.wrap 0=0:=jR 0 oM;have g6:gA .add .u64 ((a*4294967296:Nat):Int) 1=some (.int .u64 ((a*4294967296+1:Nat):Int)):=by
   have h:∀a:Nat,a<8->IntKind.u64.wrap (((a*4294967296:Nat):Int)+1)=((a*4294967296+1:Nat):Int):=by decide +kernel
   exact congrArg (fun x=> some (Value.int .u64 x)) (h a oM)
  refine .g ?_;refine .dn ?_;refine Sc.drop (R':= [(0,.pointer (some ⟨X.Wg,0,none⟩)),(2,.int .u64 ((a*4294967296:Nat):Int))]) ⟨rfl,rfl,trivial⟩ ?_;refine Sc.seq (by first|exact Jm.cl|exact hc) ?_;refine .rg rfl rfl ?_;refine .m ?_;refine .x (oC.shift rfl rfl rfl oM (by assumption)) ?_;refine .x (oC.conv rfl rfl sG tP (by assumption)) ?_;refine .g ?_;refine .dn ?_;refine Sc.drop (R':= [(0,.pointer (some ⟨X.Wg,0,none⟩)),(2,.int .u64 ((a*4294967296:Nat):Int)),(3,.int .i32 (a:Int))]) ⟨rfl,rfl,rfl,trivial⟩ ?_;refine Sc.seq (by first|exact Jm.cl|exact hc) ?_;refine .rg rfl rfl ?_;refine .m ?_;refine .i ?_ (z:=by assumption);refine .x (oC.conv rfl rfl sG XQ (by assumption)) ?_;refine .g ?_;refine .dn ?_;refine Sc.drop (R':= [(0,.pointer (some ⟨X.Wg,0,none⟩)),(2,.int .u64 ((a*4294967296:Nat):Int)),(3,.int .i32 (a:Int)),(4,.int .u32 0)]) ⟨rfl,rfl,rfl,rfl,trivial⟩ ?_;refine Sc.seq (by first|exact Jm.cl|exact hc) ?_;refine Sc.seq (by first|exact Jm.cl|exact hc) ?_;by_cases hz:a=0
  ·rw[if_pos hz];have q1:gA .eql .i32 (a:Int) 0=some (.bool true):=vC oM;refine .rg rfl rfl ?_;refine .m ?_;refine .i ?_ (z:=by assumption);refine .dn ?_;refine Sc.cond (by first|exact Jm.cl|exact hc) (t:=true) rfl (fun _=> ?_) (fun h=> nomatch h);refine Sc.seq (by first|exact Jm.cl|exact hc) ?_;refine Sc.cond (by first|exact Jm.cl|exact hc) (t:=true) rfl (fun _=> ?_) (fun h=> nomatch h);refine Sc.seq (by first|exact Jm.cl|exact hc) ?_;refine .rg rfl rfl ?_;refine So.QA rfl rfl rfl nofun rfl (.mk' rfl) rfl (Jm.we gO) ?_;rintro v J' ⟨k2,t,nO,⟨rfl,rfl⟩,rfl⟩;refine .dn (.rg rfl rfl ?_);refine .m ?_;refine .x (oC.raw rfl rfl rV qI lV (by assumption)) ?_;refine So.QA rfl rfl rfl nofun rfl (.mk' rfl) rfl (Jm.aq j5) ?_;rintro v J' ⟨rfl,rfl⟩;refine .dn (.sq (.sq (.rg rfl rfl ?_)));refine .m ?_;refine .i ?_ (z:=vC oM);refine .m ?_;refine .m ?_;refine .i ?_ (z:=by assumption);refine .i ?_ (z:=DC oM);refine .x .pk ?_;refine .m ?_;refine .sk ?_;refine .sk ?_;refine .x .pk ?_;refine .dn (.ff rfl (.sp ?_));refine Sc.kC (by exact hc) rfl (Sb.leave (by exact hc) func107 rfl (by exact .inl ⟨results107,rfl⟩) ?_);exact hK
  ·rw[if_neg hz];have q1:gA .eql .i32 (a:Int) 0=some (.bool false):=CB oM;refine .rg rfl rfl ?_;refine .m ?_;refine .i ?_ (z:=by assumption);refine .dn ?_;refine Sc.cond (by first|exact Jm.cl|exact hc) (t:=false) rfl (fun h=> nomatch h) (fun _=> ?_);refine Sc.skip (by first|exact Jm.cl|exact hc) ?_;refine Sc.seq (by first|exact Jm.cl|exact hc) ?_;refine .rg rfl rfl ?_;refine .m ?_;refine .x .nk ?_;refine .x (.fa (zz:=xF)) ?_;refine .m ?_;refine .m ?_;refine .i ?_ (z:=by assumption);refine So.QA rfl rfl rfl nofun rfl (.mk' rfl) rfl (aCa Jm.cl km (Jm.w2 ne aDZ)) ?_;rintro v J' ⟨k2,t,nO,⟨rfl,rfl⟩|⟨rfl,rfl⟩,rfl⟩
   ·refine .dn ?_;refine Sc.cond (by first|exact Jm.cl|exact hc) (t:=true) rfl (fun _=> ?_) (fun h=> nomatch h);refine Sc.seq (by first|exact Jm.cl|exact hc) ?_;refine Sc.seq (by first|exact Jm.cl|exact hc) ?_;refine Sc.drop (R':= [(0,.pointer (some ⟨X.Wg,0,none⟩)),(2,.int .u64 ((a*4294967296:Nat):Int)),(4,.int .u32 0)]) ⟨rfl,rfl,rfl,trivial⟩ ?_;refine .rg rfl rfl ?_;refine .m ?_;refine .m ?_;refine .i ?_ (z:=vC oM);refine .x .pk ?_;refine .dn ?_;refine Sc.cond (by first|exact Jm.cl|exact hc) (t:=true) rfl (fun _=> ?_) (fun h=> nomatch h);refine .rg rfl rfl ?_;refine .m ?_;refine .x .nk ?_;refine .x (.fa (zz:=eK)) ?_;refine .x (oC.raw rfl rfl J1 qI B1 (by assumption)) ?_;refine So.QA rfl rfl rfl nofun rfl (.mk' rfl) rfl (Jm.wm aDV) ?_;rintro v J' ⟨rfl,k3,K8,rfl⟩;refine .dn ?_;refine Sc.drop (R':= [(0,.pointer (some ⟨X.Wg,0,none⟩)),(2,.int .u64 ((a*4294967296:Nat):Int)),(4,.int .u32 0)]) ⟨rfl,rfl,rfl,trivial⟩ ?_;refine Sc.seq (by first|exact Jm.cl|exact hc) ?_;refine .rg rfl rfl ?_;refine .g ?_;refine .dn ?_;refine Sc.seq (by first|exact Jm.cl|exact hc) ?_;refine Sc.seq (by first|exact Jm.cl|exact hc) ?_;refine .rg rfl rfl ?_;refine .m ?_;refine .i ?_ (z:=by assumption);refine .i ?_ (z:=DC oM);refine .m ?_;refine .sk ?_;refine .x .pk ?_;refine .dn ?_;refine Sc.cond (by first|exact Jm.cl|exact hc) (t:=false) rfl (fun h=> nomatch h) (fun _=> ?_);refine Sc.skip (by first|exact Jm.cl|exact hc) ?_;refine Sc.seq (by first|exact Jm.cl|exact hc) ?_;refine .rg rfl rfl ?_;refine .m ?_;refine .x .nk ?_;refine .x (.fa (zz:=eK)) ?_;refine .m ?_;refine So.QA rfl rfl rfl nofun rfl (.mk' rfl) rfl (Jm.ws (vs:= [.pointer (some ⟨X.Wg,1,none⟩),.bool false]) ne aDW rfl) ?_;rintro v J' ⟨k4,t,hk4,⟨rfl,rfl⟩,rfl⟩;refine .dn ?_;refine Sc.drop (R':= [(0,.pointer (some ⟨X.Wg,0,none⟩))]) ⟨rfl,trivial⟩ ?_;refine Sc.seq (by first|exact Jm.cl|exact hc) ?_;refine .rg rfl rfl ?_;refine .m ?_;refine .x .nk ?_;refine .x (.fa (zz:=xF)) ?_;refine So.QA rfl rfl rfl nofun rfl (.mk' rfl) rfl (LU Jm.cl km (Jm.w4 L9)) ?_;rintro v J' ⟨k5,t,hk5,⟨rfl,rfl⟩,rfl⟩;refine .i ?_ (z:=DC oM);refine .g ?_;refine .dn ?_;refine Sc.seq (by first|exact Jm.cl|exact hc) ?_;refine Sc.cond (by first|exact Jm.cl|exact hc) (t:=true) rfl (fun _=> ?_) (fun h=> nomatch h);refine Sc.seq (by first|exact Jm.cl|exact hc) ?_;refine .rg rfl rfl ?_;refine So.QA rfl rfl rfl nofun rfl (.mk' rfl) rfl (Jm.we gO) ?_;rintro v J' ⟨k6,t,hk6,⟨rfl,rfl⟩,rfl⟩;refine .dn (.rg rfl rfl ?_);refine .m ?_;refine .x (oC.raw rfl rfl rV qI lV (by assumption)) ?_;refine So.QA rfl rfl rfl nofun rfl (.mk' rfl) rfl (Jm.aq j5) ?_;rintro v J' ⟨rfl,rfl⟩;refine .dn (.sq (.sq (.rg rfl rfl ?_)));refine .m ?_;refine .dn (.ff rfl (.sp ?_));refine Sc.kC (by exact hc) rfl (Sb.leave (by exact hc) func107 rfl (by exact .inl ⟨results107,rfl⟩) ?_);exact hK
   ·refine .dn ?_;refine Sc.cond (by first|exact Jm.cl|exact hc) (t:=false) rfl (fun h=> nomatch h) (fun _=> ?_);refine Sc.skip (by first|exact Jm.cl|exact hc) ?_;refine Sc.inBlock (by first|exact Jm.cl|exact hc) ?_;refine Sc.inLoop (by exact Jm.cl) ?_;exact IH k2 oM _ ⟨rfl,trivial⟩
theorem aBE {k:Nat}(hc:Cl prog true NU Fin)(ne:X.Mu≠X.Wg):PD (Jm prog X Fin k .wd j H) 107 [.pointer (some ⟨X.Wg,0,none⟩)] fun v J'=> v=.tuple #[]/\J'=Fin:=by
 refine NJ.at (by exact Jm.cl) aBW (NJ.enter (vs:= [.pointer (some ⟨X.Wg,0,none⟩)]) func107 rfl ntmps107 (Nat.le_of_ble_eq_true rfl) fun c cs hK=> ?_);refine Sc.seq (by first|exact Jm.cl|exact hc) ?_;refine Sc.cond (by first|exact Jm.cl|exact hc) (t:=true) rfl (fun _=> ?_) (fun h=> nomatch h);refine .rg rfl rfl ?_;refine So.QA rfl rfl rfl nofun rfl (.mk' rfl) rfl (Jm.wd RY) ?_;rintro v J' ⟨k2,t,nO,⟨rfl,rfl⟩,rfl⟩;refine .dn ?_;refine Sc.block (by first|exact Jm.cl|exact hc) ?_;refine Sc.loop (by exact Jm.cl) ?_;exact eY hc ne (hK _ _ ⟨rfl,rfl⟩) k2 _ ⟨rfl,trivial⟩
end
set_option maxHeartbeats 4000000
theorem aD {H:View}{b:Nat}{f:Bool}{o:Obj}(h:H b=some (f,o)):ro H b=some (false,o):=by simp[ro,h]
theorem iE {H:View}{b:Nat}(h:H b=none):ro H b=none:=by simp[ro,h]
theorem SG.of {H H':View}{c:Ch}{lb lo lc:Nat}{A:Option Addr}(h:SG H c lb lo lc A)(k:∀b f o,H b=some (f,o)->∃f',H' b=some (f',o)):SG H' c lb lo lc A:=by
 obtain⟨⟨f,gs,gt,gz,h1,h2⟩,h3,h4⟩:=h;obtain⟨f',h1'⟩:=k _ _ _ h1;refine⟨⟨f',gs,gt,gz,h1',h2⟩,h3,fun hm=> ?_⟩;obtain⟨ab,ao,f,gs,gt,gz,h5,h6,h7⟩:=h4 hm;obtain⟨f',h6'⟩:=k _ _ _ h6;exact⟨ab,ao,f',gs,gt,gz,h5,h6',h7⟩
theorem FC.of {H H':View}(h:FC H)(k:∀b f o,H b=some (f,o)->∃f',H' b=some (f',o)):FC H':=by
 obtain⟨f,gt,gz,h⟩:=h;obtain⟨f',h'⟩:=k _ _ _ h;exact⟨f',gt,gz,h'⟩
structure ET(X:Fk)(c:Ch)(H:View)(b1 b7 lb lo lc ac:Nat)(A:Option Addr):Prop where
 ne:X.Mu≠X.Wg
 AH:c.Good
 n:X.n=c.m+1
 ch:SG H c lb lo lc A
 h1:∃f,H b1=some (f,.cells ⟨(c.val lb lo lc ac A).cells.toList⟩ 133 (0,0))
 h7:∃f,H b7=some (f,.cells ⟨[.map (some X.C)]⟩ 192 (0,0))
 P9:FC H
 C0:H X.C=none
 GI:X.GI=GIc c
theorem ET.of {X:Fk}{c:Ch}{H H':View}{b1 b7 lb lo lc ac:Nat}{A:Option Addr}(h:ET X c H b1 b7 lb lo lc ac A)(k:∀b f o,H b=some (f,o)->∃f',H' b=some (f',o))(h0:H' X.C=none):ET X c H' b1 b7 lb lo lc ac A:=
 ⟨h.ne,h.AH,h.n,h.ch.of k,let ⟨_,g⟩:=h.h1;k _ _ _ g,let ⟨_,g⟩:=h.h7;k _ _ _ g,h.P9.of k,h0,h.GI⟩
abbrev K4:FB:=⟨67,.normal,none⟩
noncomputable def aDt:Code:=cR (cL (cR (cR (cR (cR (VG Tryz.f67))))))
noncomputable def aBG:Code:=cB (cB aDt)
noncomputable def u9:Code:=cR (cR (cR (cR (cR (VG Tryz.f67)))))
section
variable {X:Fk}{c:Ch}{b1 b7 lb lo lc ac:Nat}{A:Option Addr}{Fin:Goroutine->Prop}{cs:List Frame}
def rgS(X:Fk)(c:Ch)(b1 b7 j:Nat):Rg:= [(1,.pointer (some ⟨b1,0,none⟩)),(2,.int .i64 0),(3,.int .i64 0),(4,.bool false),(5,.pointer (some ⟨X.Mu,0,none⟩)),(6,.pointer (some ⟨X.Wg,0,none⟩)),(7,.pointer (some ⟨b7,0,none⟩)),(13,.int .i64 ((c.m:Nat)+1)),(14,.int .i64 (j:Nat))]
theorem FN(XC:∀(R:Rg),WB (rgS X c b1 b7 (c.m+1)) R->∀k (H:View),Sc (Jm prog X Fin k .wd (c.m+1) H) 35 K4 cs R [] [.code u9]):∀(d j k:Nat) (H:View),j+d=c.m+1->ET X c H b1 b7 lb lo lc ac A->∀(R:Rg),WB (rgS X c b1 b7 j) R-> 
  Sc (Jm prog X Fin k (if j<X.n then .kd else .wd) j H) 35 K4 cs R [] [.code aBG,.inLoop aBG,.inBlock 0,.code u9]
 | 0,j,k,H,hj,kB,R,hR=> by
  have e:j=c.m+1:=by omega
  subst e;rw[if_neg (by rw[kB.n];omega)];refine Sc.drop hR ?_;unfold rgS;refine .sq (.rg rfl rfl ?_);refine .i ?_ (z:=mK oM);refine .dn ?_;refine Sc.seq Jm.cl (Sc.cond Jm.cl (t:=false) rfl (fun h=> nomatch h) (fun _=> ?_));refine .xt rfl ?_;exact XC _ ⟨rfl,rfl,rfl,rfl,rfl,rfl,rfl,rfl,rfl,trivial⟩ k H
 | d + 1,j,k,H,hj,kB,R,hR=> by
  rw[if_pos (by rw[kB.n];omega)];refine Sc.drop hR ?_;unfold rgS;have hmn:=kB.AH.ok.D6;have N8:=kB.AH.ok.n4;refine .sq (.rg rfl rfl ?_);refine .i ?_ (z:=bP oM);refine .dn ?_;refine Sc.seq Jm.cl (Sc.cond Jm.cl (t:=true) rfl (fun _=> ?_) (fun h=> nomatch h));refine .sp (.sq (.bl (.sq ?_)));refine Sc.none kB.C0 ?_;refine Sc.aAA (eA.nil H) ?_;refine .r ?_;refine .m ?_;refine .e (.al (zz:=fun b8=> ?_));refine .e (.st 0 (zz:=?_));refine .done ?_;refine Tc.M6 (fun H1 hs=> Sc.Y0 (fun hC1=> ?_));have aEr:ET X c H1 b1 b7 lb lo lc ac A:=kB.of (fun b f o h=> ⟨f,hs.base _ _ h⟩) hC1;have h8:=hs.get (i:=0) rfl;show Sc (Jm prog X Fin k .kd j H1) 35 K4 cs _ [] _;refine .sq (.rg rfl rfl ?_);refine So.QA rfl rfl rfl nofun rfl (.mk' rfl) rfl (CY kB.ne) ?_;rintro v J' ⟨rfl,k',rfl⟩;refine .dn (.rg rfl rfl ?_);refine So.opD Jm.cl rfl rfl rfl rfl (oC.makeFunc rfl rfl rfl) ?_;have NK:ET X c (ro H1) b1 b7 lb lo lc ac A:=aEr.of (fun b f o h=> ⟨false,aD h⟩) (iE hC1);refine Jm.go (f:=102) (fn:=#[]) (caps:=(aBF X b1 b8 b7).toArray) rfl nofun rfl rfl rfl rfl rfl rfl rfl (fun k1 _=> ?_) (fun k1 _=> ?_)
  ·refine .dn (.ib (.rg rfl rfl ?_));refine .i ?_ (z:=tC oM oM);refine .m ?_;refine .dn ?_;refine Sc.inLoop (by exact Jm.cl) ?_;exact FN XC d (j+1) k1 (ro H1) oM NK _ ⟨rfl,rfl,rfl,rfl,rfl,rfl,rfl,rfl,rfl,trivial⟩
  ·refine V1 (A:=A) (lb:=lb) (lo:=lo) (lc:=lc) (ac:=ac) ⟨kB.ne,kB.AH.ok,NK.ch,NK.h1,⟨false,aD h8⟩,NK.h7,fun i hi hf=> Lk.NL (kB.AH.NL i hf),oM,NK.P9,NK.C0,kB.GI⟩ (fun H' D k n b cs R ds hb h=> K9 hb kB.ne h) k1
end
theorem Ph.aCT {P:Program}{H:View}{g:Goroutine}{Po:View->Goroutine->Prop}(h:P7 P H g Po):Ph P H g Po:=
 ⟨H,fun _=> none,Po,fun _ _ h=> (nomatch h),(by funext b;unfold View.plus;cases H b <;> rfl),h,fun H' g' _ hp=> by
  have e:H'.plus (fun _=> none)=H':=by funext b;unfold View.plus;cases H' b <;> rfl
  rwa [e]⟩
def View.beside(X:Fk)(H:View):View:=((H.BA X.C).BA X.Mu).BA X.Wg
theorem jL {X:Fk}{H:View}:View.beside X H X.Mu=none/\View.beside X H X.Wg=none/\View.beside X H X.C=none:=by
 refine⟨?_,?_,?_⟩ <;> unfold View.beside View.BA <;> simp
theorem OF {X:Fk}{H:View}{b:Nat}(h1:b≠X.C)(h2:b≠X.Mu)(h3:b≠X.Wg):View.beside X H b=H b:=by
 unfold View.beside;rw[OA h3,OA h2,OA h1]
theorem Ph.begin {P:Program}{H:View}{g:Goroutine}{Po:View->Goroutine->Prop}(X:Fk)(Fin:Goroutine->Prop)(o:Obj)(hn:0<X.n/\X.n<=6)(ne:X.Mu≠X.Wg/\X.Mu≠X.C/\X.Wg≠X.C)
  (hC:H X.C=some (true,o)) (C8:H X.Mu=some (true,X.dP ⟨0,0,0,0,0⟩)) (F8:H X.Wg=some (true,X.yP ⟨0,0,0,0,0⟩)) (R9:X.GI (fun _=> false) o)
  (hg:∀k,T (Mw P true X.ok) (MS P X Fin k .kd 0) (ro (View.beside X H)) g) (hPo:∀o' g',X.GI (fun i=> decide (i<X.n)) o'->Fin g'->Po ((View.beside X H).put X.C (true,o')) g'):Ph P H g Po:=by
 refine Ph.aCT ⟨X,Fin,View.beside X H,o,hn.1,hn.2,ne,jL,?_,R9,hg,hPo⟩
 funext b
 by_cases e1:b=X.Wg
 ·subst e1;rw[View.qA,F8]
 ·rw[View.kA _ _ e1];by_cases e2:b=X.Mu
  ·subst e2;rw[View.qA,C8]
  ·rw[View.kA _ _ e2];by_cases e3:b=X.C
   ·subst e3;rw[View.qA,hC]
   ·rw[View.kA _ _ e3,OF e3 e2 e1]
theorem So.all {J:Obj->Goroutine->Prop}{p:Obj->Prop}{n:Nat}{b:FB}{cs:List Frame}{dl:List (Option Tmp)}{R:Rg}{ds:List Deferred}{l:List Oper}{kk:List Item}(h:∀o,p o->So (J o) n b cs dl R ds l kk):So (fun g=> ∀o,p o->J o g) n b cs dl R ds l kk:=
 fun arr ix ha hx tmps hr o ho=> h o ho arr ix ha hx tmps hr
def Ch.UO(c:Ch)(i:Nat):Bool:=(c.bad i).isSome
def Ch.first(c:Ch):Option Nat:=aC c.UO (c.m+1)
def Ch.sec(c:Ch):Nat:=c.first.getD 0
theorem Ch.aBr(c:Ch):c.sec<=c.m:=by
 unfold Ch.sec Ch.first;cases h:aC c.UO (c.m+1) with
 | none=> simp
 | some x=> have:=qJ h;simp;omega
theorem FW {c:Ch}{es:Array MapEntry}{cl:Nat}{n:Nat}(hn:n=c.m+1)(h:eC es cl (wF c fun i=> decide (i<n))){i:Nat}(hi:i<=c.m){r:Option (Nat×Value)}(hr:fG es.toList (.int .i64 (i:Nat)) r):
  (match c.bad i with|some z=> ∃j,r=some (j,.int .i64 z)|none=> r=none):=by
 have hf:=h.find hr;cases hb:c.bad i with
 | none=>
  cases r with
  | none=> rfl
  | some p=>
   obtain⟨j,v⟩:=p;obtain⟨i',z,h1,h2,h3,h4,h5⟩:=hf;simp only[Value.int.injEq,true_and,Int.natCast_inj] at h4;subst h4;rw[hb] at h3;cases h3
 | some z=>
  cases r with
  | none=> exact(hf (.int .i64 z) ⟨i,z,hi,by simp;omega,hb,rfl,rfl⟩).elim
  | some p=>
   obtain⟨j,v⟩:=p;obtain⟨i',z',h1,h2,h3,h4,h5⟩:=hf;simp only[Value.int.injEq,true_and,Int.natCast_inj] at h4;subst h4;rw[hb] at h3;cases h3
   exact⟨j,by rw[h5]⟩
section
theorem GY(M:Md prog)(H:View)(ch:Ch)(b7 bC:Nat)(es:Array MapEntry)(cl n:Nat)(f7 fC:Bool)(hn:n=ch.m+1)(h7:H b7=some (f7,.cells ⟨[.map (some bC)]⟩ 192 (0,0)))(hC:H bC=some (fC,.map es cl))(hm:eC es cl (wF ch fun i=> decide (i<n))):
  WN M H (.func (.func 108) #[] #[.pointer (some ⟨b7,0,none⟩)]) (ch.m+1) ch.UO:=fun i hi H' hle=> by
 refine UC.of (first:= []) (captured:= [_]) aBX rfl ?_;have h7':=hle _ _ h7;have hC':=hle _ _ hC;have oL:=fun r (hr:fG es.toList (.int .i64 (i:Nat)) r)=> FW hn hm oM hr;refine .en func108 ntmps108 fun St c cs hK=> ?_;cases hb:ch.bad i with
 | none=>
  refine .sr ?_;refine .g ?_;refine .done (.sr ?_);refine .x .l0 ?_;refine .m ?_;refine .x (oA.lookup (E:=en) (v:=.tuple #[.int .i64 0,.bool false]) 1 rfl rfl rfl (fun H hs=> ⟨_,hs.base _ _ hC'⟩) rfl rfl rfl dE (kK _) (pM hm) (fun r hr=> by have:=oL r hr;rw[hb] at this;subst this;rfl)) ?_;refine .m ?_;refine .x .et ?_;refine .x .et ?_;refine .g ?_;refine .g ?_;refine .done (.sr ?_);refine .m ?_;refine .g ?_;refine .done ?_;refine .rt hK func108 results108 [_] ?_;exact fun H2 hs=> ⟨hs.base,by unfold Ch.UO;rw[hb];rfl⟩
 | some z=>
  refine .sr ?_;refine .g ?_;refine .done (.sr ?_);refine .x .l0 ?_;refine .m ?_;refine .x (oA.lookup (E:=en) (v:=.tuple #[.int .i64 z,.bool true]) 1 rfl rfl rfl (fun H hs=> ⟨_,hs.base _ _ hC'⟩) rfl rfl rfl dE (kK _) (pM hm) (fun r hr=> by have:=oL r hr;rw[hb] at this;obtain⟨j,rfl⟩:=this;rfl)) ?_;refine .m ?_;refine .x .et ?_;refine .x .et ?_;refine .g ?_;refine .g ?_;refine .done (.sr ?_);refine .m ?_;refine .g ?_;refine .done ?_;refine .rt hK func108 results108 [_] ?_;exact fun H2 hs=> ⟨hs.base,by unfold Ch.UO;rw[hb];rfl⟩
theorem SH(H:View)(ch:Ch)(lb lo lc ac:Nat)(A:Option Addr)(hA:SG H ch lb lo lc A)(hg:ch.Good)(hG:FC H):
  cA (Mp prog) 67 #[ch.val lb lo lc ac A] H (fun v H'=> H.le H'/\v=.tuple ⟨[.int .i64 (ch.sec:Nat),.int .i64 ((ch.bad ch.sec).getD 0),.bool ch.first.isSome]⟩):=by
 refine .en func67 ntmps67 fun St c cs hK=> ?_;have hmn:=hg.ok.D6;have N8:=hg.ok.n4;refine .sr ?_;refine .e (.bx (zz:=fun b1=> ?_));refine .g ?_;refine .g ?_;refine .g ?_;refine .done (.sr ?_);refine .e (.al (zz:=fun b5=> ?_));refine .done (.sr ?_);refine .e (.al (zz:=fun b6=> ?_));refine .done (.sr ?_);refine .e (Or.makeMap rfl rfl dE (fun bC=> ?_));refine .e (.al (zz:=fun b7=> ?_));refine .e (.st 0 (zz:=?_));refine .done (.seq (.sr ?_));refine .x .fa ?_;refine .x (.ld 4) ?_;refine .x .ln ?_;refine .i ?_ (z:=tC oM oM);refine .m ?_;refine .done ?_;refine Tc.M6 (fun Hx hs tmps hr=> ?_);obtain⟨X,hX⟩:∃X:Fk,X=⟨ch.m+1,b5,b6,bC,184,191,GIc ch⟩:=⟨_,rfl⟩
 have x1:=hs.get (i:=0) rfl;have x2:=hs.get (i:=1) rfl;have x3:=hs.get (i:=2) rfl;have x4:=hs.get (i:=3) rfl;have x5:=hs.get (i:=4) rfl;have nC: [b7,bC,b6,b5,b1].Nodup:=hs.nodup;simp only[List.nodup_cons,List.mem_cons,List.not_mem_nil,or_false,not_or,not_false_eq_true,List.nodup_nil,and_true] at nC;obtain⟨⟨n1,n2,n3,n4⟩,⟨n5,n6,n7⟩,⟨n8,n9⟩,n10⟩:=nC;have o1:=hs.out _ (List.mem_cons_self);have BF:∀y,y=bC\/y=b5\/y=b6->H y=none:=by
  rintro y (rfl|rfl|rfl)
  ·exact hs.out _ (List.mem_cons_of_mem _ List.mem_cons_self)
  ·exact hs.out _ (List.mem_cons_of_mem _ (List.mem_cons_of_mem _ (List.mem_cons_of_mem _ List.mem_cons_self)))
  ·exact hs.out _ (List.mem_cons_of_mem _ (List.mem_cons_of_mem _ List.mem_cons_self))
 have hle:H.le (View.beside X Hx):=fun b y hb=> by
  have e:∀z,z=bC\/z=b5\/z=b6->b≠z:=fun z hz e=> by subst e;rw[BF b hz] at hb;cases hb
  rw[OF (by subst hX;exact e _ (.inl rfl)) (by subst hX;exact e _ (.inr (.inl rfl))) (by subst hX;exact e _ (.inr (.inr rfl)))];exact hs.base _ _ hb
 have y1:View.beside X Hx b1=some (true,.cells ⟨(ch.val lb lo lc ac A).cells.toList⟩ 133 (0,0)):=by
  subst hX;rw[OF (by exact Ne.symm n7) (by exact Ne.symm n10) (by exact Ne.symm n9)];exact x5
 have y7:View.beside X Hx b7=some (true,.cells ⟨[.map (some bC)]⟩ 192 (0,0)):=by
  subst hX;rw[OF n1 n3 n2];exact x1
 obtain⟨Fin,hF⟩:∃Fin:Goroutine->Prop,Fin=fun g=> ∀o',X.GI (fun i=> decide (i<X.n)) o'->T (Mp prog) St ((View.beside X Hx).put X.C (true,o')) g:=⟨_,rfl⟩
 have hcF:Cl prog true NU Fin:=⟨fun g g' hs h hf=> by
  subst hF;exact fun o' ho=> .step ⟨hs,fun w hw GB=> ⟨g',w,#[],_,h w (fun _ _ e=> by cases e),.refl hw,hf o' ho⟩⟩⟩
 have gB:X.Mu≠X.Wg:=by subst hX;exact Ne.symm n8
 refine T.phase (Po:=fun H' g'=> T (Mp prog) St H' g') (Ph.begin X Fin (.map #[] 0) (by subst hX;exact⟨by show 0<ch.m+1;omega,by show ch.m+1<=6;omega⟩) ⟨gB,by subst hX;exact Ne.symm n6,by subst hX;exact Ne.symm n5⟩ (by subst hX;exact x2) (by subst hX;exact x4) (by subst hX;exact x3) (by subst hX;exact⟨_,_,rfl,eC.nil.congr fun a b=> by unfold wF;simp⟩) (fun k=> ?_) (fun o' g' ho hf=> by subst hF;exact hf o' ho)) (fun H' g' hp=> hp);have kB:ET X ch (ro (View.beside X Hx)) b1 b7 lb lo lc ac A:=
  ⟨gB,hg,by subst hX;rfl,hA.of (fun b f o h=> ⟨false,aD (hle _ _ h)⟩),⟨false,aD y1⟩,by subst hX;exact⟨false,aD y7⟩,hG.of (fun b f o h=> ⟨false,aD (hle _ _ h)⟩),iE jL.2.2,by subst hX;rfl⟩
 have XC:∀(R:Rg),WB (rgS X ch b1 b7 (ch.m+1)) R->∀k (H:View),Sc (Jm prog X Fin k .wd (ch.m+1) H) 35 K4 (c::cs) R [] [.code u9]:=by
  intro R hR k Hk;refine Sc.drop hR ?_;unfold rgS;refine .sq (.rg rfl rfl ?_);refine So.QA rfl rfl rfl nofun rfl (.mk' rfl) rfl (aBE hcF gB) ?_;rintro v J' ⟨rfl,rfl⟩;subst hF;refine So.all (fun o' oO=> ?_);have R9:X.GI=GIc ch:=by subst hX;rfl
  rw[R9] at oO;obtain⟨es,cl,rfl,hm⟩:=oO;have hX2:X.n=ch.m+1:=by subst hX;rfl
  have z1:(View.beside X Hx).put X.C (true,.map es cl) b1=some (true,.cells ⟨(ch.val lb lo lc ac A).cells.toList⟩ 133 (0,0)):=by
   rw[View.kA _ _ (by subst hX;exact Ne.symm n7)];exact y1
  have z7:(View.beside X Hx).put X.C (true,.map es cl) b7=some (true,.cells ⟨[.map (some X.C)]⟩ 192 (0,0)):=by
   rw[View.kA _ _ (by subst hX;exact n1)];subst hX;exact y7
  have zC:(View.beside X Hx).put X.C (true,.map es cl) X.C=some (true,.map es cl):=View.qA ..;have zle:H.le ((View.beside X Hx).put X.C (true,.map es cl)):=fun b y hb=> by
   rw[View.kA _ _ (by rintro rfl;subst hX;rw[BF bC (.inl rfl)] at hb;cases hb)];exact hle _ _ hb
  generalize (View.beside X Hx).put X.C (true,.map es cl)=H2 at z1 z7 zC zle;refine So.aEz (eA.nil H2) ?_;refine .done (.sr ?_);refine .x .fa ?_;refine .x .l0 ?_;refine .x .ln ?_;refine .i ?_ (z:=tC oM oM);refine .x .mf ?_;refine .c rfl rfl rfl rfl (fun H hs=> .f aDI rfl (aM _ H (ch.m+1) _ ch.UO oM (GY _ H ch b7 X.C es cl X.n true true hX2 (hs.base _ _ z7) (hs.base _ _ zC) hm))) ?_;refine .m ?_;refine .x .et ?_;refine .x .et ?_;refine .g ?_;refine .g ?_;refine .done (.seq ?_);have aEo:=ch.aBr;have oL:=fun r (hr:fG es.toList (.int .i64 (ch.sec:Nat)) r)=> FW hX2 hm aEo hr;refine Tc.dr [] [] mixed rfl ?_;refine .q 0 rfl .mv ?_;refine .q 1 rfl .l0 ?_;refine .q 2 rfl .mv ?_;refine .q 3 rfl (oA.lookup (E:=en) (v:=.int .i64 ((ch.bad ch.sec).getD 0)) 1 rfl rfl rfl (fun H hs=> ⟨_,hs.base _ _ zC⟩) rfl rfl rfl dE (kK _) (pM hm) (fun r hr=> by have:=oL r hr;cases hb:ch.bad ch.sec with|none=> rw[hb] at this;subst this;rfl|some z=> rw[hb] at this;obtain⟨j,rfl⟩:=this;rfl)) ?_;refine .q 4 rfl .mv ?_;refine .q 5 rfl .sg ?_;refine .q 6 rfl .sg ?_;refine .q 7 rfl .sg ?_;refine Ta.done kR ?_;refine .rt hK func67 results67 [_,_,_] ?_;exact fun H' hs=> ⟨View.le_trans zle hs.base,rfl⟩
 refine Sc.block Jm.cl (Sc.loop Jm.cl ?_) tmps hr;have h0:0<X.n:=by subst hX;show 0<ch.m+1;omega
 have hgo:=FN XC (ch.m+1) 0 k (ro (View.beside X Hx)) oM kB;simp only[if_pos h0] at hgo;subst hX;exact hgo _ (by unfold rgS;refine⟨rfl,?_⟩;refine⟨rfl,?_⟩;refine⟨rfl,?_⟩;refine⟨rfl,?_⟩;refine⟨rfl,?_⟩;refine⟨rfl,?_⟩;refine⟨rfl,?_⟩;refine⟨rfl,?_⟩;refine⟨rfl,?_⟩;exact trivial)
end
end Go.Proofs.YtgkmnalhddmclaaGreatDoor
namespace Go.Proofs.YtgkmnalhddmclaaGreatDoor
open Go.RL Go.Proofs.Tryz
set_option maxRecDepth 10000
set_option maxHeartbeats 4000000
def oD(H:View)(A:Option Addr)(l:List Int):Prop:=
 l= []\/∃ab ao f gs gt gz,A=some ⟨ab,ao,none⟩/\H ab=some (f,.cells ⟨gs⟩ gt gz)/\∀j:Nat,j<l.length->SB false 1 gs (ao+(j:Int).toNat*1)=some (.int .i64 (l[j]?.getD 0))
theorem oD.le {H H':View}{A:Option Addr}{l:List Int}(h:oD H A l)(k:H.le H'):oD H' A l:=by
 rcases h with h|⟨ab,ao,f,gs,gt,gz,h1,h2,h3⟩
 ·exact .inl h
 ·exact .inr ⟨ab,ao,f,gs,gt,gz,h1,k _ _ h2,h3⟩
theorem oD.of {H:View}{g:Gl 3 1}{l:List Int}(hl:g.l=mA l)(h:∀y∈g.bl,H y.1=some y.2):g.n=l.length/\oD H (g.blk.map fun b=> ⟨b,0,none⟩) l:=by
 have hn:g.n=l.length:=by
  have:=g.hl;rw[hl,sA] at this;omega
 refine⟨hn,?_⟩;obtain⟨_|b,n,cap,gl,gj,h1,h2,h3,h4⟩:=g
 ·have:=h4 rfl;simp only at hn h2;refine .inl (List.eq_nil_of_length_eq_zero oM)
 ·refine .inr ⟨b,0,true,gl++gj,3,(0,0),rfl,h (b,true,.cells ⟨gl++gj⟩ 3 (0,0)) (by simp[Gl.bl]),fun j hj=> ?_⟩;simp only at hl;subst hl;show(mA l++gj)[0+(j:Int).toNat*1]? =_;rw[Nat.zero_add,Nat.mul_one,Int.toNat_natCast,List.getElem?_append_left (by rw[sA];exact hj)];unfold mA;rw[List.getElem?_map,List.getElem?_eq_getElem hj];rfl
def VO(p:Nat->Bool)(k:Nat):List Int:=((List.range k).filter p).map fun i:Nat=> (i:Int)
theorem FZ(p:Nat->Bool)(k:Nat):fB p k=mA (VO p k):=by
 unfold fB VO mA;rw[List.map_map];rfl
section
variable(M:Md prog)(H:View)
theorem wO(a b:Int):cA M 15 #[.int .i64 a,.int .i64 b] H (fun v H'=> H.le H'/\v=rB a b):=by
 refine .en func15 ntmps15 fun St c cs hK=> ?_;refine U2 ?_;refine .al fun b4=> ?_;refine U8 ?_;refine .rt hK func15 results15 [_] ?_;exact okB
theorem aBK(x a b:Int):cA M 85 #[.int .i64 x,.int .i64 a,.int .i64 b] H (fun v H'=> H.le H'/\v=.bool (decide (a<=x/\x<=b))):=by
 refine .en func85 ntmps85 fun St c cs hK=> ?_;by_cases c1:a<=x
 all_goals by_cases c2:x<=b
 all_goals (
  refine U8 ?_;refine .i ?_ (z:=by first|exact QM oM|exact PM oM);refine U ?_;first|(refine .sk ?_)|(refine .m ?_)
  first|(refine .sk ?_)|(refine .m ?_)
  first|(refine .sk ?_)|(refine .x (.it (zz:=(by first|exact DG oM|exact VF oM))) ?_)
  refine U3 ?_;refine .rt hK func85 results85 [_] ?_;exact fun H' hs=> ⟨hs.base,by simp[c1,c2];rfl⟩)
theorem RD(a b low high:Int):cA M 84 #[rB a b,.int .i64 low,.int .i64 high] H (fun v H'=> H.le H'/\v=.bool (decide (a<=b/\low<=a/\b<=high))):=by
 refine .en func84 ntmps84 fun St c cs hK=> ?_;by_cases c1:a<=b
 all_goals by_cases c2:low<=a
 all_goals by_cases c3:b<=high
 all_goals (
  refine U2 ?_;refine .bo fun b3=> ?_;refine U8 ?_;refine .i ?_ (z:=by first|exact DG oM|exact VF oM);refine U ?_;first|(refine .sk ?_)|(refine .x .fa ?_)
  first|(refine .sk ?_)|((refine .x (.ld 0) ?_))
  first|(refine .sk ?_)|(refine .m ?_)
  first|(refine .sk ?_)|(refine .x (.it (zz:=(by first|exact QM oM|exact PM oM))) ?_)
  refine U2 ?_;first|(refine .sk ?_)|(refine .x .fa ?_)
  first|(refine .sk ?_)|((refine .x (.ld 0) ?_))
  first|(refine .sk ?_)|(refine .m ?_)
  first|(refine .sk ?_)|(refine .x (.it (zz:=(by first|exact DG oM|exact VF oM))) ?_)
  refine U3 ?_;refine .rt hK func84 results84 [_] ?_;exact fun H' hs=> ⟨hs.base,by simp[c1,c2,c3];rfl⟩)
theorem ZU(a b:Int):cA M 45 #[rB a b] H (fun v H'=> H.le H'/\v=.bool (tB a b)):=by
 refine .en func45 ntmps45 fun St c cs hK=> ?_;by_cases c1:a<=b/\1<=a/\b<=40
 ·by_cases c2:b-a<3
  ·have e:tB a b=true:=decide_eq_true oM;refine U2 ?_;refine .bo fun b1=> ?_;refine U5 ?_;refine .cl (fun H hs=> cA.is (.bool true) (by rewrite [decide_eq_true c1];rfl) (RD M H a b 1 40)) ?_;refine zI ?_;refine .rt hK func45 results45 [_] ?_;exact fun H' hs=> ⟨hs.base,by rw[e];rfl⟩
  ·have e:tB a b=false:=decide_eq_false oM;refine U2 ?_;refine .bo fun b1=> ?_;refine U5 ?_;refine .cl (fun H hs=> cA.is (.bool true) (by rewrite [decide_eq_true c1];rfl) (RD M H a b 1 40)) ?_;refine zI ?_;refine .rt hK func45 results45 [_] ?_;exact fun H' hs=> ⟨hs.base,by rw[e];rfl⟩
 ·have e:tB a b=false:=decide_eq_false oM;refine U2 ?_;refine .bo fun b1=> ?_;refine U5 ?_;refine .cl (fun H hs=> cA.is (.bool false) (by rewrite [decide_eq_false c1];rfl) (RD M H a b 1 40)) ?_;refine zI ?_;refine .rt hK func45 results45 [_] ?_;exact fun H' hs=> ⟨hs.base,by rw[e];rfl⟩
theorem pP(a b x y:Int):cA M 86 #[.agg ⟨[.int .i64 a,.int .i64 b,.int .i64 x,.int .i64 y]⟩] H (fun v H'=> H.le H'/\v=.int .i64 (if eE a b&&yE x y then 0 else 1)):=by
 refine .en func86 ntmps86 fun St c cs hK=> ?_;by_cases c1:a<=b/\ -9<=a/\b<=9
 ·by_cases c2:b-a≥3
  ·have e:(eE a b&&yE x y)=false:=by unfold eE;rw[decide_eq_false oM];rfl
   refine U2 ?_;refine .bo fun b1=> ?_;refine U7 ?_;refine .cl (fun H hs=> cA.is (.bool true) (by rewrite [decide_eq_true c1];rfl) (RD M H a b (-9) 9)) ?_;refine U23 ?_;refine .rt hK func86 results86 [_] ?_;exact fun H' hs=> ⟨hs.base,by rw[e];rfl⟩
  ·by_cases c3:x<=y/\ -12<=x/\y<=12
   ·have e:(eE a b&&yE x y)=true:=by unfold eE yE;rw[decide_eq_true oM,decide_eq_true oM];rfl
    refine U2 ?_;refine .bo fun b1=> ?_;refine U7 ?_;refine .cl (fun H hs=> cA.is (.bool true) (by rewrite [decide_eq_true c1];rfl) (RD M H a b (-9) 9)) ?_;refine zH ?_;refine .cl (fun H hs=> cA.is (.bool true) (by rewrite [decide_eq_true c3];rfl) (RD M H x y (-12) 12)) ?_;refine U9 ?_;refine .rt hK func86 results86 [_] ?_;exact fun H' hs=> ⟨hs.base,by rw[e];rfl⟩
   ·have e:(eE a b&&yE x y)=false:=by unfold yE;rw[decide_eq_false (p:= -12<=x/\x<=y/\y<=12/\y-x<25) oM];simp
    refine U2 ?_;refine .bo fun b1=> ?_;refine U7 ?_;refine .cl (fun H hs=> cA.is (.bool true) (by rewrite [decide_eq_true c1];rfl) (RD M H a b (-9) 9)) ?_;refine zH ?_;refine .cl (fun H hs=> cA.is (.bool false) (by rewrite [decide_eq_false c3];rfl) (RD M H x y (-12) 12)) ?_;refine U8 ?_;refine .rt hK func86 results86 [_] ?_;exact fun H' hs=> ⟨hs.base,by rw[e];rfl⟩
 ·have e:(eE a b&&yE x y)=false:=by unfold eE;rw[decide_eq_false oM];rfl
  refine U2 ?_;refine .bo fun b1=> ?_;refine U7 ?_;refine .cl (fun H hs=> cA.is (.bool false) (by rewrite [decide_eq_false c1];rfl) (RD M H a b (-9) 9)) ?_;refine U23 ?_;refine .rt hK func86 results86 [_] ?_;exact fun H' hs=> ⟨hs.base,by rw[e];rfl⟩
end
set_option maxHeartbeats 8000000
def bl(x:Nat):Nat:=if x=0 then 0 else Nat.log2 x+1
theorem aBT:∀x:Nat,x<64->(UInt8.ofNat (bl x)).toNat=bl x/\bl x<=6/\x<2 ^ bl x/\2 ^ bl x<=2*x+1:=by decide +kernel
theorem I7:∀x:Nat,x<64->IntKind.u8.wrap (x:Int)=(x:Int):=by decide +kernel
section
variable(M:Md prog)(H:View)
theorem R3(x:Nat)(hx:x<64):cA M 134 #[.int .u64 (x:Nat)] H (fun v H'=> H.le H'/\v=.int .i64 (bl x:Nat)):=by
 obtain⟨b1,b2,_,_⟩:=aBT x hx;have hw:=I7 x hx;have hw2:IntKind.i64.wrap (((UInt8.ofNat (bl x)).toNat:Nat):Int)=((bl x:Nat):Int):=by rw[b1];exact wrap64 oM oM
 have aCl:gA .add .i64 0 ((bl x:Nat):Int)=some (.int .i64 ((bl x:Nat):Int)):=by rw[tC oM oM,Int.zero_add]
 refine .en func134 ntmps134 fun St c cs hK=> ?_;refine U33 ?_;refine .x (oA.jK (c:=UInt8.ofNat (bl x)) rfl rfl rfl aBz oM (by
  rw[Int.toNat_natCast];exact(fun(s:ByteArray) (h:∀y:Nat,y<64->s[y]? =some (UInt8.ofNat (bl y)))=> h x hx) _ (by decide +kernel))) ?_
 refine .x (oA.p8 (E:=en) rfl rfl rfl rfl rfl rfl hw2) ?_;refine .i ?_ (z:=aCl);refine U2 ?_;refine .rt hK func134 results134 [_] ?_;exact okB
end
end Go.Proofs.YtgkmnalhddmclaaGreatDoor
namespace Go.Proofs.YtgkmnalhddmclaaGreatDoor
open Go.RL Go.Proofs.Tryz
set_option maxRecDepth 10000
def dC(s p:List UInt8):Bool:=decide (p.length<=s.length)&&(s.take p.length==p)
section
variable(M:Md prog)(H:View)
theorem FP(s p:List UInt8):cA M 221 #[jA s,jA p] H (fun v H'=> H.le H'/\v=.bool (dC s p)):=by
 refine .en func221 ntmps221 fun St c cs hK=> ?_;by_cases c1:p.length<=s.length
 ·have e:dC s p=(s.take p.length==p):=by unfold dC;simp[c1]
  rw[e] at hK;refine WL ?_;refine .x (oA.HD (E:=en) rfl rfl rfl rfl rfl rfl oM oM oM) ?_;refine U5 ?_;refine .rt hK func221 results221 [_] ?_;exact fun H' hs=> ⟨hs.base,by simp[TC]⟩
 ·have e:dC s p=false:=by unfold dC;simp[c1]
  rw[e] at hK;refine wR ?_;refine .rt hK func221 results221 [_] ?_;exact okB
end
set_option maxHeartbeats 4000000
def H9(n:Nat):UInt8:=UInt8.ofNat (48+n%10)
end Go.Proofs.YtgkmnalhddmclaaGreatDoor
namespace Go.RL
open Go.Conc
section
variable {P:Program}{E:Env P}{M:Md P}{St:View->Goroutine->Prop}{n:Nat}{b:FB}{H₀:View}{cs:List Frame}{R:Rg}{L L₁:Bl}{ds:List Deferred}{k:List Item}
end
section
variable {P:Program}{M:Md P}{St:View->Goroutine->Prop}{n:Nat}{b:FB}{H₀:View}{cs:List Frame}{R:Rg}{L:Bl}{ds:List Deferred}{k:List Item}{ops:Array Oper}
end
section
variable {P:Program}{M:Md P}{St:View->Goroutine->Prop}{n:Nat}{b:FB}{H₀ H₁:View}{cs:List Frame}{R:Rg}{L:Bl}{ds:List Deferred}{k:List Item}{md:Region.Mode}{ops:Array Oper}
theorem S2.mkL {B:List Nat}{Ls Lb L₁:Bl}{listed:Array Bool}(hle:H₀.le H₁)(h1:Ls.Sublist L₁)(h2:(B.all fun j=> !(listed.getD j true))=false\/Lb.Sublist L₁):∀H,eA H₁ L₁ H->S2 H₀ B Ls Lb listed H:=fun H hs=> S2.mk h1 h2 H (hs.lower hle)
theorem Ta.aB9(i:Nat){B:List Nat}{Hs:View}{Ls Lb:Bl}{o:Oper}{d:Nat}{fuel:Nat}{listed:Array Bool}{cl:Go.Call}{x:Operand}{fv:Value}{az:List Value}(hr:Region.ready md ops listed= [i])(hi:ops[i]? =some o)
  (hw:JA (ops.toList.map (fun o:Oper=> o.dst)) R o=some true) (iA:o.op=.call cl) (PB:cl.callee=.value x) (hx:GA R x=some fv) (has:aE R cl.args.toList=some az) (hd:o.dst=some d) (hn:d<n)
  {Q:Value->View->Prop} (hc:UC M fv az H₀ Q) (hle:∀v H₁,Q v H₁->Hs.le H₁) (h1:Ls.Sublist L) (h2:(B.all fun j=> !((listed.setIfInBounds i true).getD j true))=false\/Lb.Sublist L)
  (hk:∀v H₁,Q v H₁->Ta M St n b H₁ cs (S2 Hs B Ls Lb) md ops fuel (listed.setIfInBounds i true) ((d,v)::R) L ds k):
  Ta M St n b H₀ cs (S2 Hs B Ls Lb) md ops (fuel+1) listed R L ds k:=fun H tmps hs vE _ H₂ B8 _=> by
 have hs:=hs.mono B8;refine⟨fun e=> (by rw[hr] at e;cases e),fun j hj o' oO=> ?_⟩;rw[hr] at hj;have:j=i:=by simpa using hj
 subst this;rw[hi] at oO;cases oO
 refine⟨(by rw[iA];rfl),?_⟩;have VN:Region.wanted o (yielded ops tmps)=true:=jB (fun j=> by
  simp only[List.getElem?_map,Array.getElem?_toList];cases ops[j]? <;> rfl) vE hw
 rw[if_pos VN];obtain⟨F,rfl,RN,hF⟩:=hs.split;have e1:=vE.ev hx;have KF:cl.args.map (uB tmps)=az.toArray:=by
  apply Array.ext'
  simpa using vE.evs has
 have hex:execOp (uB tmps) o=(Deferred.ofValue fv az.toArray).bind fun d=> invoke d.target d.args:=by
  have h1:execOp (uB tmps) o=(resolve (uB tmps) cl o.type).bind fun d=> invoke d.target d.args:=by unfold execOp;rw[iA];rfl
  rw[h1];unfold resolve;rw[PB];simp only[e1,KF]
 unfold dF;rw[hex];have fin:∀v H'',eG F Q v H''->S2 Hs B Ls Lb (listed.setIfInBounds j true) H''/\LH M md ops (S2 Hs B Ls Lb) (fun tmps H=> T M St H (G (b.at tmps ds k) cs)) fuel (listed.setIfInBounds j true) (KB tmps o.dst v) H'':=by
  rintro v H'' ⟨H₁,rfl,RI,hq⟩;have hsy:eA H₁ L (H₁.plus F):=.OK hs.nodup hF RI;have hS:S2 Hs B Ls Lb (listed.setIfInBounds j true) (H₁.plus F):=S2.mkL (hle v H₁ hq) h1 h2 _ hsy;refine⟨hS,?_⟩;rw[hd];exact hk v H₁ hq _ _ hsy (vE.put hn v) hS
 refine MA _ (fun nx H' tQ=> ?_) (hc.frame RN);cases nx <;> first
  | exact tQ.elim
  | exact cA.mono tQ fin
  | exact IL.mono tQ fin
end
end Go.RL
namespace Go.Proofs.YtgkmnalhddmclaaGreatDoor
open Go.RL Go.Proofs.Tryz
set_option maxRecDepth 10000
set_option maxHeartbeats 4000000
def KD(c:UInt8):Bool:=decide (48<=c.toNat/\c.toNat<58)
def YT:List UInt8:= [48,49,50,51,52,53,54,55,56,57]
def YD(i:Nat):List Value:=(List.range 256).map fun j=> .bool (decide (48<=j/\j<48+i))
def HF(s:List UInt8):List UInt8:=(s.reverse.dropWhile KD).reverse
def oI(s:List UInt8):List UInt8:=(HF s).dropWhile KD
theorem MR:YD 0=List.replicate 256 (.bool false):=by kernel_rfl
theorem ZW:∀i,i<10->IE (YD i) (0+((48+i:Nat):Int).toNat*1) [.bool true]=YD (i+1):=by
 intro i hi;rcases(by omega:i=0\/i=1\/i=2\/i=3\/i=4\/i=5\/i=6\/i=7\/i=8\/i=9) with rfl|rfl|rfl|rfl|rfl|rfl|rfl|rfl|rfl|rfl <;> kernel_rfl
theorem YW(c:UInt8):SB false 1 (YD 10) (0+((c.toNat:Nat):Int).toNat*1)=some (.bool (KD c)):=by
 show(YD 10)[_]? =_;have:c.toNat<256:=c.toNat_lt;unfold YD KD;rw[List.getElem?_map,Int.toNat_natCast,Nat.mul_one,Nat.zero_add,List.getElem?_range this];rfl
theorem X4:∀i,i<10->YT[i]? =some (UInt8.ofNat (48+i)):=by decide
theorem nV(s:List UInt8)(c:UInt8)(h:KD c=true):HF (s++[c])=HF s:=by
 unfold HF;rw[List.reverse_append];simp[h]
theorem oV(s:List UInt8)(c:UInt8)(h:KD c=false):HF (s++[c])=s++[c]:=by
 unfold HF;rw[List.reverse_append];simp[h]
theorem YK(s:List UInt8):(oI s== [])=s.all KD:=by
 have h:oI s= []<->∀c∈s,KD c=true:=by
  unfold oI HF;constructor
  ·intro h c hc;have h1:∀l:List UInt8,l.dropWhile KD= []->∀c∈l,KD c=true:=by
    intro l;induction l with
    | nil=> simp
    | cons x t ih=>
     rw[List.dropWhile_cons];split
     ·rename_i hx
      intro h c hc;rcases List.mem_cons.1 hc with rfl|hc
      ·exact hx
      ·exact ih h c hc
     ·intro h;cases h
   have h2:=h1 _ h;have h3:∀l:List UInt8,(∀c∈l.dropWhile KD,KD c=true)->∀c∈l,KD c=true:=by
    intro l;induction l with
    | nil=> simp
    | cons x t ih=>
     rw[List.dropWhile_cons];split
     ·rename_i hx
      intro h c hc;rcases List.mem_cons.1 hc with rfl|hc
      ·exact hx
      ·exact ih h c hc
     ·intro h c hc;exact h c hc
   exact h3 s.reverse (fun c hc=> h2 c (List.mem_reverse.2 hc)) c (List.mem_reverse.2 hc)
  ·intro h;have h1:∀l:List UInt8,(∀c∈l,KD c=true)->l.dropWhile KD= []:=by
    intro l;induction l with
    | nil=> simp
    | cons x t ih=>
     intro h;rw[List.dropWhile_cons,if_pos (h x (List.mem_cons_self ..))];exact ih fun c hc=> h c (List.mem_cons_of_mem _ hc)
   rw[h1 s.reverse (fun c hc=> h c (List.mem_reverse.1 hc))];rfl
 rw[Bool.eq_iff_iff,beq_iff_eq,h,List.all_eq_true]
section
variable(M:Md prog)(H:View)
theorem YG(b:Nat)(f:Bool)(gt:TypeId)(gz:Nat×Nat)(hb:H b=some (f,.cells ⟨YD 10⟩ gt gz))(c0:UInt8):
  cA M 222 #[.pointer (some ⟨b,0,none⟩),.int .u8 (c0.toNat:Nat)] H (fun v H'=> H.le H'/\v=.bool (KD c0)):=by
 have f1:=YW c0;have f2:=c0.toNat_lt;refine .en func222 ntmps222 fun St c cs hK=> ?_;refine aJ ?_;refine .rt hK func222 results222 [_] ?_;exact okB
end
section
variable(M:Md prog)(H:View)
theorem yX:cA M 197 #[jA YT] H (fun v H'=> H.le H'/\v=.tuple ⟨[.agg ⟨YD 10⟩,.bool true]⟩):=by
 refine .en func197 ntmps197 fun St c cs hK=> ?_;refine U2 ?_;refine .al fun b2=> ?_;refine U8 ?_;refine Tc.PC (Tc.vA (σ:= { i:Nat//i<=10 }) (fun i=> ([(0,jA YT),(2,.pointer (some ⟨b2,0,none⟩)),(4,.int .i64 (i.1:Nat))],[(b2,true,.cells ⟨YD i.1⟩ 270 (0,0))])) (fun i=> 10-i.1) ?_ ⟨0,oM⟩) ⟨rfl,rfl,rfl,trivial⟩ (by rw[MR];exact List.Sublist.refl _);rintro⟨i,hi⟩ ih;show Tc M St _ _ _ _ [(0,jA YT),(2,.pointer (some ⟨b2,0,none⟩)),(4,.int .i64 (i:Nat))] [(b2,true,.cells ⟨YD i⟩ 270 (0,0))] _ _;have nR:(YT.length:Nat)=10:=rfl;by_cases c1:i=10
 ·subst c1;refine bJ ?_;refine .rt hK func197 results197 [_,_] ?_;exact okB
 ·have c2:i<10:=by omega
  have f1:YT[((i:Nat):Int).toNat]? =some (UInt8.ofNat (48+i)):=by rw[Int.toNat_natCast];exact X4 i c2
  have f2:(UInt8.ofNat (48+i)).toNat=48+i:=by rw[UInt8.toNat_ofNat'];omega
  have f3:=ZW i c2;have f4:Nat.ble (0+((48+i:Nat):Int).toNat*1+1) (YD i).length=true:=by
   refine Nat.ble_eq_true_of_le ?_;rw[Int.toNat_natCast];unfold YD;rw[List.length_map,List.length_range];omega
  refine BV ?_;rw[f2];refine BV ?_;exact Tc.db (ih ⟨i+1,oM⟩ (by simp only;omega))
theorem jT(b:Nat)(f:Bool)(gt:TypeId)(gz:Nat×Nat)(hb:H b=some (f,.cells ⟨YD 10⟩ gt gz))(s:List UInt8)(hl:s.length<=1000000):
  cA M 199 #[jA s,.pointer (some ⟨b,0,none⟩)] H (fun v H'=> H.le H'/\v=jA (HF s)):=by
 refine .en func199 ntmps199 fun St c cs hK=> ?_;refine U6 ?_;refine Tc.db (Tc.vA (σ:= { r:List UInt8//HF r=HF s/\r.length<=s.length }) (fun r=> ([(0,jA r.1),(1,.pointer (some ⟨b,0,none⟩))],[])) (fun r=> r.1.length) ?_ ⟨s,rfl,Nat.le_refl _⟩);rintro⟨r,hr,hlr⟩ ih;show Tc M St _ _ _ _ [(0,jA r),(1,.pointer (some ⟨b,0,none⟩))] [] _ _;have mG:r= []\/∃q x,r=q++[x]:=by
  rcases List.eq_nil_or_concat r with h|⟨q,x,h⟩
  ·exact .inl h
  ·exact .inr ⟨q,x,by rw[h,List.concat_eq_append]⟩
 rcases mG with rfl|⟨q,x,rfl⟩
 ·have e:HF s= []:=by rw[<-hr];rfl
  rw[e] at hK;refine zH ?_;refine .rt hK func199 results199 [_] ?_;exact okB
 ·have l1:(q++[x]).length=q.length+1:=by simp
  have f1:(q++[x])[(((q++[x]).length:Nat)-1:Int).toNat]? =some x:=by
   rw[l1,show(((q.length+1:Nat):Int)-1).toNat=q.length by omega];simp
  cases hx:KD x with
  | false=>
   have e:HF s=q++[x]:=by rw[<-hr];exact oV q x hx
   have hc:=fun(H':View) (h':H.le H')=> YG M H' b f gt gz (h' _ _ hb) x;rw[hx] at hc;rw[e] at hK;refine BV ?_;refine .cl (fun H hs=> hc H hs.base) ?_;refine U9 ?_;refine .rt hK func199 results199 [_] ?_;exact okB
  | true=>
   have hc:=fun(H':View) (h':H.le H')=> YG M H' b f gt gz (h' _ _ hb) x;rw[hx] at hc;have e:((q++[x]).drop ((0:Nat):Int).toNat).take ((((q++[x]).length:Nat)-1:Int).toNat-((0:Nat):Int).toNat)=q:=by
    rw[l1,show(((q.length+1:Nat):Int)-1).toNat=q.length by omega];simp
   refine BV ?_;refine .cl (fun H hs=> hc H hs.base) ?_;refine U9 ?_;refine .x (oA.HD (E:=en) rfl rfl rfl rfl rfl rfl oM oM oM) ?_;refine U2 ?_;rw[e];refine U ?_;exact Tc.db (ih ⟨q,by rw[<-hr,nV q x hx],oM⟩ (by simp only;omega))
theorem mV(b:Nat)(f:Bool)(gt:TypeId)(gz:Nat×Nat)(hb:H b=some (f,.cells ⟨YD 10⟩ gt gz))(s:List UInt8)(hl:s.length<=1000000):
  cA M 198 #[jA s,.pointer (some ⟨b,0,none⟩)] H (fun v H'=> H.le H'/\v=jA (s.dropWhile KD)):=by
 refine .en func198 ntmps198 fun St c cs hK=> ?_;refine U6 ?_;refine Tc.db (Tc.vA (σ:= { r:List UInt8//r.dropWhile KD=s.dropWhile KD/\r.length<=s.length }) (fun r=> ([(0,jA r.1),(1,.pointer (some ⟨b,0,none⟩))],[])) (fun r=> r.1.length) ?_ ⟨s,rfl,Nat.le_refl _⟩);rintro⟨r,hr,hlr⟩ ih;show Tc M St _ _ _ _ [(0,jA r),(1,.pointer (some ⟨b,0,none⟩))] [] _ _;rcases r with _|⟨x,q⟩
 ·have e:s.dropWhile KD= []:=by rw[<-hr];rfl
  rw[e] at hK;refine zH ?_;refine .rt hK func198 results198 [_] ?_;exact okB
 ·have l1:(x::q).length=q.length+1:=rfl;have f1:(x::q)[(0:Int).toNat]? =some x:=rfl;cases hx:KD x with
  | false=>
   have e:s.dropWhile KD=x::q:=by rw[<-hr,List.dropWhile_cons,hx];rfl
   have hc:=fun(H':View) (h':H.le H')=> YG M H' b f gt gz (h' _ _ hb) x;rw[hx] at hc;rw[e] at hK;refine bJ ?_;refine .cl (fun H hs=> hc H hs.base) ?_;refine U9 ?_;refine .rt hK func198 results198 [_] ?_;exact okB
  | true=>
   have hc:=fun(H':View) (h':H.le H')=> YG M H' b f gt gz (h' _ _ hb) x;rw[hx] at hc;have e:((x::q).drop (1:Int).toNat).take ((((x::q).length:Nat):Int).toNat-(1:Int).toNat)=q:=by
    rw[l1,show(((q.length+1:Nat):Int)).toNat-(1:Int).toNat=q.length by omega];simp
   refine bJ ?_;refine .cl (fun H hs=> hc H hs.base) ?_;refine U6 ?_;refine .x (oA.HD (E:=en) rfl rfl rfl rfl rfl rfl oM oM oM) ?_;refine U2 ?_;rw[e];refine U ?_;exact Tc.db (ih ⟨q,by rw[<-hr,List.dropWhile_cons,hx];rfl,oM⟩ (by simp only;omega))
theorem AY(s:List UInt8)(hl:s.length<=1000000):cA M 168 #[jA s,jA YT] H (fun v H'=> H.le H'/\v=jA (oI s)):=by
 rcases s with _|⟨x,q⟩
 ·have e:oI []= []:=rfl;rw[e];refine .en func168 ntmps168 fun St c cs hK=> ?_;refine X1 ?_;refine .rt hK func168 results168 [_] ?_;exact okB
 ·have hlr:(HF (x::q)).length<=1000000:=by
   unfold HF;rw[List.length_reverse];have:=(List.dropWhile_sublist KD (l:=(x::q).reverse)).length_le;rw[List.length_reverse] at this;omega
  refine .en func168 ntmps168 fun St c cs hK=> ?_;refine U34 ?_;refine .cl (fun H hs=> yX M H) ?_;refine U3 ?_;refine .al fun b5=> ?_;refine eF ?_;refine .cl (fun H hs=> jT M H b5 true _ _ (hs.get (i:=0) rfl) (x::q) hl) ?_;refine .cl (fun H hs=> mV M H b5 true _ _ (hs.get (i:=0) rfl) (HF (x::q)) hlr) ?_;refine U2 ?_;refine .rt hK func168 results168 [_] ?_;exact okB
end
end Go.Proofs.YtgkmnalhddmclaaGreatDoor
namespace Go.RL
open Go.Conc
def CA(s:List UInt8):List Value:=s.map fun b=> .int .u8 (b.toNat:Nat)
theorem rF(s:List UInt8):(CA s).length=s.length:=by simp[CA]
theorem WG(s t:List UInt8):CA (s++t)=CA s++CA t:=by simp[CA]
theorem dO(s:List UInt8):(CA s).all single=true:=by
 rw[List.all_eq_true];intro x hx;obtain⟨b,_,rfl⟩:=List.mem_map.1 hx;rfl
section
variable {P:Program}{E:Env P}{M:Md P}{n:Nat}{H₀:View}{R:Rg}{L L':Bl}{K:Rg->Bl->Prop}{o:Oper}{d:Nat}{v:Value}
theorem AM(a:List UInt8)(b:UInt8):(ByteArray.mk ⟨a⟩).push b=ByteArray.mk ⟨a++[b]⟩:=by
 apply ByteArray.ext
 apply Array.ext'
 simp
theorem iJ {H:View}{Q:ByteArray->View->Prop}(F:Value->ByteArray->Sem (ForInStep ByteArray))(hF:∀(b:UInt8) acc,F (.int .u8 (b.toNat:Nat)) acc=Sem.pure (.yield (acc.push b))):∀(s a:List UInt8),Q ⟨⟨a++s⟩⟩ H->yA P (forIn (CA s) (ByteArray.mk ⟨a⟩) F) H Q
 | [],a,h=> by
  rw[List.append_nil] at h;exact h
 | b::s,a,h=> by
  show yA P (forIn (Value.int .u8 (b.toNat:Nat)::CA s) (ByteArray.mk ⟨a⟩) F) H Q;rw[List.forIn_cons];refine aA _ _ ?_;rw[hF];show yA P (forIn (CA s) ((ByteArray.mk ⟨a⟩).push b) F) H Q;rw[AM];refine iJ F hF s (a++[b]) ?_;rw[List.append_assoc];exact h
theorem zK {H:View}{Q:Value->View->Prop}{y:Value}{m:Nat}{s:List UInt8}(h:NA H 1 y m (CA s))(hq:Q (jA s) H):yA P (Conv.bytesToString y) H Q:=by
 obtain⟨_,hl,⟨a,c,rfl,he⟩|⟨b,off,c,f,cs,e,fz,rfl,hb,hle,ht⟩⟩:=h
 ·have:s= []:=by cases s with
   | nil=> rfl
   | cons _ _=> cases he
  subst this;have hm:m=0:=by simpa [CA] using hl.symm
  subst hm;cases a with
  | none=> exact hq
  | some a=> exact hq
 ·have hm:m=(CA s).length:=by rw[hl,Nat.mul_one]
  unfold Conv.bytesToString;show yA P ((loadCellsFrom ⟨b,off,none⟩ 0 m #[]).bind _) H Q;refine aA _ _ (JE b off hb m 0 #[] (by rw[hm];omega) ?_);rw[hm,Nat.add_zero,ht];refine aA _ _ ?_;simp only[Array.empty_append,List.forIn_toArray];exact iJ _ (fun b acc=> by
   show(pure (ForInStep.yield (acc.push (UInt8.ofNat ((b.toNat:Nat):Int).toNat))):Sem (ForInStep ByteArray))=Sem.pure (ForInStep.yield (acc.push b));rw[Int.toNat_natCast,UInt8.ofNat_toNat];rfl) s [] hq
theorem oA.JV {t u e:TypeId}{x:Operand}{yv:Value}{m:Nat}{s:List UInt8}{r re r':wA}(iA:o.op=.convert t u x)(hx:GA R x=some yv)(nG:∀H,eA H₀ L H->NA H 1 yv m (CA s))(ht:E.ty t=some r)(hr:r.ds=.slice e)(hte:E.ty e=some re)(ZC:re.ds=.int .u8)(T2:E.ty u=some r')(vE:r'.ds=.str):
  oA P n H₀ R L o (jA s):=fun H tmps hs pX=> by
 unfold execOp;rw[iA];simp only[pX.ev hx];have h1:=nG H hs;obtain⟨⟨a,c,rfl⟩,_⟩:=h1;refine aA (convert t u (.slice a m c)) _ ?_;unfold convert;refine aA (underlying t) _ (dA (uC ((E.ok _ _ ht).ds.trans hr)) (aA (underlying u) _ (dA (ZG ((E.ok _ _ T2).ds.trans vE)) ?_)));refine aA (underlying e) _ (dA (LK ((E.ok _ _ hte).ds.trans ZC)) ?_);exact zK (nG H hs) ⟨rfl,rfl⟩
end
end Go.RL
namespace Go.Proofs.YtgkmnalhddmclaaGreatDoor
open Go.RL Go.Proofs.Tryz
set_option maxRecDepth 10000
set_option maxHeartbeats 8000000
theorem qV:∀x:Nat,x<256->IntKind.u8.wrap (x:Int)=(x:Int):=by decide +kernel
end Go.Proofs.YtgkmnalhddmclaaGreatDoor
namespace Go.RL
open Go.Conc
section
variable {P:Program}{E:Env P}{M:Md P}{n:Nat}{H₀:View}{R:Rg}{L L':Bl}{K:Rg->Bl->Prop}{o:Oper}{d:Nat}{v:Value}
structure Xt(P:Program)(f:FuncId)(e:Array Value->Sem Value):Prop where
 ex:∃fn,P.funcs[f]? =some fn/\(fn.name== "runtime.NumGoroutine")=false/\fn.body.isNone=true/\Extern.findNext fn=none/\Extern.find fn=some e
theorem dY {g:FuncId}{e:Array Value->Sem Value}{args:Array Value}{H:View}{Q:Next->View->Prop}(he:Xt P g e)(h:yA P (e args) H fun u H'=> Q (.value u) H'):yA P (callFunc g args) H Q:=by
 obtain⟨fn,h1,h2,h3,h4,h5⟩:=he;show yA P (match P.funcs[g]? with|none=> _|some fn=> _) H Q;rw[h1];simp only[h2,h3,h4,h5,Bool.false_eq_true,if_false,if_true];refine⟨rfl,?_⟩;exact aA (e args) _ h
theorem oA.entry {cl:Go.Call}{x:Operand}{g:FuncId}{az:List Value}{e:Array Value->Sem Value}(iA:o.op=.call cl)(PB:cl.callee=.value x)(hx:GA R x=some (.func (.func g) #[] #[]))(has:aE R cl.args.toList=some az)(he:Xt P g e)
  (hv:∀(H:View) (Q:Value->View->Prop),Q v H->yA P (e az.toArray) H Q):oA P n H₀ R L o v:=fun H tmps _ hr=> by
 have e1:=hr.ev hx;have KF:cl.args.map (uB tmps)=az.toArray:=by
  apply Array.ext'
  simpa using hr.evs has
 have hex:execOp (uB tmps) o=(resolve (uB tmps) cl o.type).bind fun d=> invoke d.target d.args:=by unfold execOp;rw[iA];rfl
 rw[hex];have:((resolve (uB tmps) cl o.type).bind fun d=> invoke d.target d.args)=(Deferred.ofValue (.func (.func g) #[] #[]) az.toArray).bind fun d=> invoke d.target d.args:=by
  unfold resolve;rw[PB];simp only[e1,KF]
 rw[this];simp only[Deferred.ofValue];show yA P (callFunc g (#[]++az.toArray ++ #[])) H _;have e3:(#[]:Array Value)++az.toArray ++ #[]=az.toArray:=by simp
 rw[e3];exact dY he (hv H _ ⟨rfl,rfl⟩)
theorem uV {H:View}{r:Nat}{f:Bool}{c:Array Value}{e:TypeId}{fz:Nat×Nat}{Q:Option (Addr×TypeId)->View->Prop}(hb:H r=some (f,.cells c e fz))(h:Q none H):yA P (viewAt r) H Q:=⟨f,c,e,fz,hb,h⟩
theorem sT {H:View}{r:Nat}{f:Bool}{c:Array Value}{e:TypeId}{fz:Nat×Nat}{Q:Option Nat->View->Prop}(hb:H r=some (f,.cells c e fz))(h:Q (some c.size) H):yA P (cellsIn r) H Q:=⟨f,c,e,fz,hb,h⟩
theorem LN {H:View}{a:Addr}{f:Bool}{c:Array Value}{e:TypeId}{fz:Nat×Nat}{Q:Addr->View->Prop}(hb:H a.block=some (f,.cells c e fz))(h:Q a H):yA P (Conv.seenAt a) H Q:=by
 refine aA (viewAt a.block) _ (uV hb ?_);exact h
theorem oA.aEM(j:Nat){t u pt:TypeId}{x:Operand}{blk off:Nat}{f:Bool}{c:List Value}{e:TypeId}{fz:Nat×Nat}{r:wA}(iA:o.op=.convert t u x)(hx:GA R x=some (.pointer (some ⟨blk,off,none⟩)))(hi:L[j]? =some (blk,f,.cells ⟨c⟩ e fz))
  (ht:P.underlying t=some (.pointer pt)) (hu:P.underlying u=some .unsafePointer) (hr:E.ty pt=some r) (h0:Nat.beq r.size 0=false) (hl:Nat.blt off c.length=true):oA P n H₀ R L o (.pointer (some ⟨blk,off,none⟩)):=fun H tmps hs pX=> by
 unfold execOp;rw[iA];simp only[pX.ev hx];refine aA (convert t u (.pointer (some ⟨blk,off,none⟩))) _ ?_;unfold convert;refine aA (underlying t) _ (dA ht (aA (underlying u) _ (dA hu ?_)));show yA P (Conv.unsafePointer t u (.pointer (some ⟨blk,off,none⟩))) H _;unfold Conv.unsafePointer;refine aA (underlying t) _ (dA ht (aA (underlying u) _ (dA hu ?_)));have hb:=hs.get hi;refine aA (Conv.seenAt ⟨blk,off,none⟩) _ (LN hb ?_);refine aA (cellsIn blk) _ (sT hb ?_);refine aA (sizeOf pt) _ (IA (E.ok _ _ hr).size ?_);have h1:r.size≠0:=Nat.ne_of_beq_eq_false h0;have h2:off<c.length:=by simpa [Nat.blt_eq] using hl
 have h3:(decide (r.size=0)||(decide (off≥(⟨c⟩:Array Value).size)&&(none:Option (Nat×Nat)).isNone))=false:=by
  have e1:decide (r.size=0)=false:=decide_eq_false h1;have e2:decide (off≥(⟨c⟩:Array Value).size)=false:=decide_eq_false (by show ¬off≥c.length;omega);rw[e1,e2];rfl
 rw[if_neg (by intro h;exact Bool.false_ne_true (h3.symm.trans h))];exact⟨rfl,rfl⟩
theorem oA.O9(j:Nat){t u pt:TypeId}{x:Operand}{blk off:Nat}{f:Bool}{c:List Value}{e:TypeId}{fz:Nat×Nat}{r:wA}(iA:o.op=.convert t u x)(hx:GA R x=some (.pointer (some ⟨blk,off,none⟩)))(hi:L[j]? =some (blk,f,.cells ⟨c⟩ e fz))
  (ht:P.underlying t=some .unsafePointer) (hu:P.underlying u=some (.pointer pt)) (hr:E.ty pt=some r) (fS:liesAt P P.depth e (c.length/P.cellsOf e) off pt 1=true):oA P n H₀ R L o (.pointer (some ⟨blk,off,none⟩)):=fun H tmps hs pX=> by
 unfold execOp;rw[iA];simp only[pX.ev hx];refine aA (convert t u (.pointer (some ⟨blk,off,none⟩))) _ ?_;unfold convert;refine aA (underlying t) _ (dA ht (aA (underlying u) _ (dA hu ?_)));show yA P (Conv.unsafePointer t u (.pointer (some ⟨blk,off,none⟩))) H _;unfold Conv.unsafePointer;refine aA (underlying t) _ (dA ht (aA (underlying u) _ (dA hu ?_)));have hb:=hs.get hi;refine aA (Conv.seenAt ⟨blk,off,none⟩) _ (LN hb ?_);refine aA (sizeOf pt) _ (IA (E.ok _ _ hr).size ?_);refine aA (variablesAt ⟨blk,off,none⟩ pt 1) _ ?_;refine⟨f,_,_,_,hb,?_⟩;show yA P (Sem.pure (liesAt P P.depth e (c.length/P.cellsOf e) off pt 1)) H _;rw[fS];show yA P (if(decide (r.size=0)||true)=true then _ else _) H _;rw[if_pos (by rw[Bool.or_true])];exact⟨rfl,rfl⟩
theorem oA.L0(b:Bool){t u pt:TypeId}{x y:Operand}{p:Option Addr}(iA:o.op=.binOp .eql t x y u)(hx:GA R x=some (.pointer p))(hy:GA R y=some (.pointer none))(ht:P.underlying t=some (.pointer pt))(hb:p.isNone=b):oA P n H₀ R L o (.bool b):=fun H tmps _ hr=> by
 subst hb;unfold execOp;rw[iA];simp only[hr.ev hx,hr.ev hy];show yA P (((eqGuard .eql t x y (.pointer p) (.pointer none)).bind fun _=> binOp .eql t (.pointer p) (.pointer none)).bind _) H _;refine aA _ _ (aA _ _ ?_);show yA P ((Op.equalIn (9999+1) t (.pointer p) (.pointer none)).bind fun c=> Sem.pure (Value.bool c)) H _;refine aA _ _ ?_;unfold Op.equalIn;refine aA (underlying t) _ (dA ht ?_);cases p <;> exact⟨rfl,rfl⟩
theorem oA.Z6 {t u pt:TypeId}{x y:Operand}{a:Addr}{r:wA}(iA:o.op=.binOp .neq t x y u)(hx:GA R x=some (.pointer (some a)))(hy:GA R y=some (.pointer (some a)))(ht:P.underlying t=some (.pointer pt))(vE:E.ty pt=some r)(h0:Nat.beq r.size 0=false):
  oA P n H₀ R L o (.bool false):=fun H tmps _ hr=> by
 unfold execOp;rw[iA];simp only[hr.ev hx,hr.ev hy];show yA P (((eqGuard .neq t x y (.pointer (some a)) (.pointer (some a))).bind fun _=> binOp .neq t (.pointer (some a)) (.pointer (some a))).bind _) H _;refine aA _ _ (aA _ _ ?_);show yA P ((Op.equalIn (9999+1) t (.pointer (some a)) (.pointer (some a))).bind fun c=> Sem.pure (Value.bool (!c))) H _;refine aA _ _ ?_;unfold Op.equalIn;refine aA (underlying t) _ (dA ht ?_);refine aA (sizeOf pt) _ (IA (E.ok _ _ vE).size ?_);have h1:r.size≠0:=Nat.ne_of_beq_eq_false h0;show yA P (if r.size≠0 then sameAddr a a else _) H _;rw[if_pos h1];have e:yA P (sameAddr a a) H fun c H'=> c=true/\H'=H:=by
  unfold sameAddr;simp only[BEq.rfl,if_true];exact⟨rfl,rfl⟩
 refine MA _ ?_ e;rintro _ _ ⟨rfl,rfl⟩;exact⟨rfl,rfl⟩
def CZ(s:List UInt8)(c:UInt8):Int:=
 match (List.range s.length).find? fun i=> (ByteArray.mk ⟨s⟩)[i]! ==c with
 | some i=> (i:Nat)
 | none=> -1
theorem K7 {s:List UInt8}{c:Nat}{H:View}{Q:Value->View->Prop}(h:Q (.int .i64 (CZ s (UInt8.ofNat c))) H):yA P (Extern.BytealgIndexByte.indexByte #[jA s,.int .u8 (c:Nat)]) H Q:=by
 show yA P (match (List.range s.length).find? fun i=> (ByteArray.mk ⟨s⟩)[i]! ==((c:Nat):Int).toNat.toUInt8 with|some i=> Sem.pure (goInt i)|none=> Sem.pure (goInt (-1))) H Q;rw[Int.toNat_natCast];have e:c.toUInt8=UInt8.ofNat c:=rfl;rw[e];unfold CZ at h;split at h
 ·exact h
 ·exact h
end
section
variable {P:Program}{E:Env P}{M:Md P}{n:Nat}{H₀:View}{R:Rg}{L L':Bl}{o:Oper}{K:Rg->Bl->Prop}{d:Nat}
theorem eA.sub {H:View}(h:eA H₀ L H)(p:L'.Sublist L):eA H₀ L' H:=
 ⟨h.nodup.sublist (p.map _),fun x hx=> h.out x (p.subset hx),fun x hx=> h.at_ x (p.subset hx),h.base⟩
def YJ {σ:Type}(H₁:View)(val:σ->Value)(bl:σ->Bl)(p:σ->Prop)(v:Value)(H':View):Prop:=
 ∃s H₂,v=val s/\H₁.le H₂/\eA H₂ (bl s) H'/\p s
theorem Or.VW(k:Nat){σ:Type}(val:σ->Value)(bl:σ->Bl)(p:σ->Prop){cl:Go.Call}{x:Operand}{fv:Value}{az:List Value}(iA:o.op=.call cl)(PB:cl.callee=.value x)(hx:GA R x=some fv)(has:aE R cl.args.toList=some az)
  (hc:∀H₁ H,eA H₀ (L.take k) H₁->eA H₁ (L.drop k) H->UC M fv az H (YJ H₁ val bl p))
  (hk:∀s,p s->∃R',(match o.dst with|some d=> d<n/\R'=(d,val s)::R|none=> R'=R)/\K R' (L.take k++bl s)):Or M n H₀ R L o K:=
 .e8 iA PB hx has (Q:=fun _ v H'=> ∃s,v=val s/\p s/\eA H₀ (L.take k++bl s) H') (fun H hs=> by
  have hs':eA H₀ (L.drop k++L.take k) H:=hs.perm (List.perm_append_comm.trans (by rw[List.take_append_drop]));obtain⟨H₁,h1,h2⟩:=hs'.mD;refine(hc H₁ H h2 h1).mono ?_;rintro v H' ⟨s,H₂,rfl,h3,h4,h5⟩;exact⟨s,rfl,h5,((h2.mono h3).append h4).perm List.perm_append_comm⟩) (by
  rintro H v H' hs ⟨s,rfl,h1,h2⟩;obtain⟨R',h3,h4⟩:=hk s h1;exact⟨_,R',h2,h3,h4⟩)
theorem Or.zD(k:Nat){σ:Type}(val:σ->Value)(bl:σ->Bl)(p:σ->Prop){cl:Go.Call}{x:Operand}{fv:Value}{az:List Value}(iA:o.op=.call cl)(PB:cl.callee=.value x)(hx:GA R x=some fv)(has:aE R cl.args.toList=some az)(hd:o.dst=some d)(hn:d<n)
  (hc:∀H₁ H,eA H₀ (L.take k) H₁->eA H₁ (L.drop k) H->UC M fv az H (YJ H₁ val bl p))
  (hk:∀s,p s->K ((d,val s)::R) (L.take k++bl s)):Or M n H₀ R L o K:=
 .VW k val bl p iA PB hx has hc fun s hs=> ⟨_,by rw[hd];exact⟨hn,rfl⟩,hk s hs⟩
theorem Or.PY {t u e:TypeId}{x:Operand}{s:List UInt8}{r re r':wA}(iA:o.op=.convert t u x)(hx:GA R x=some (jA s))(ht:E.ty t=some r)(hr:r.ds=.str)(T2:E.ty u=some r')(vE:r'.ds=.slice e)(hte:E.ty e=some re)(ZC:re.ds=.int .u8)(hd:o.dst=some d)(hn:d<n)
  (hk:∀blk cap (jj:List Value) fz,K ((d,.slice (some ⟨blk,0,none⟩) s.length cap)::R) ((blk,true,.cells ⟨CA s++jj⟩ e fz)::L)):Or M n H₀ R L o K:=
 .val hd hn fun H tmps hs uZ=> by
  unfold execOp;rw[iA];simp only[uZ.ev hx];refine aA (convert t u (jA s)) _ ?_;unfold convert;refine aA (underlying t) _ (dA (ZG ((E.ok _ _ ht).ds.trans hr)) (aA (underlying u) _ (dA (uC ((E.ok _ _ T2).ds.trans vE)) ?_)));refine aA (underlying e) _ (dA (LK ((E.ok _ _ hte).ds.trans ZC)) ?_);show yA P (Conv.stringToBytes e ⟨⟨s⟩⟩) H _;unfold Conv.stringToBytes;refine aA (choose _) _ ?_;intro tt;rw[if_neg (by simp[Question.forced])];generalize (Question.appendCap (ByteArray.mk ⟨s⟩).size 0 e).cut tt=cap;refine aA (newRow e _) _ ?_;have e1:(ByteArray.mk ⟨s⟩).data.map (fun b=> Value.int .u8 (b.toNat:Int))++Array.replicate (cap-(ByteArray.mk ⟨s⟩).size) (Value.int .u8 0)=⟨CA s++List.replicate (cap-s.length) (.int .u8 0)⟩:=by
   apply Array.ext'
   simp[CA]
   rfl
  rw[e1];intro blk BH;refine aA (markStringish ⟨blk,0,none⟩) _ ?_;refine⟨true,_,_,_,View.qA ..,?_⟩;refine⟨Nat.one_ne_zero,_,_,_,View.qA ..,?_⟩;refine⟨_,rfl,_,?_,hk blk cap (List.replicate (cap-s.length) (.int .u8 0)) ?fz⟩;have e2:∀(H:View) (b:Nat) (x y:Bool×Obj),(H.put b x).put b y=H.put b y:=fun H b x y=> by
   funext c
   by_cases h:c=b
   ·subst h;rw[View.qA,View.qA]
   ·rw[View.kA _ _ h,View.kA _ _ h,View.kA _ _ h]
  rw[e2];exact hs.cons _ BH
end
end Go.RL
