/-
 Texts of the proofs over baudot/dial.
-/
import Derived.Test.YtgkmnalhddmclaaGreatDoorB05
namespace Go.Proofs.YtgkmnalhddmclaaGreatDoor
open Go.RL Go.Proofs.Tryz Go.Conc Go.ConcN Go.RL.Au
open Go.ConcR (stA smA)
open Go.ConcM (muA msA)
set_option maxRecDepth 10000
set_option maxHeartbeats 1000000
section
variable {X:Fk}{κ:Nat}{D:Nat->Bool}{H:View}{cc:Frame}{cs:List Frame}
theorem NM(X:Fk):∃e c,X.OZ X.Wg=some (e,c)/\0<c:=by
 unfold Fk.OZ;by_cases h:X.Wg=X.Mu
 ·exact⟨X.tM,2,by simp[h],by decide⟩
 ·exact⟨X.tW,2,by simp[h],by decide⟩
theorem lV(X:Fk):∃e c,X.OZ X.Wg=some (e,c)/\0+1<c:=by
 unfold Fk.OZ;by_cases h:X.Wg=X.Mu
 ·exact⟨X.tM,2,by simp[h],by decide⟩
 ·exact⟨X.tW,2,by simp[h],by decide⟩
theorem kw {K:Value->Th->Prop}{k:Nat}:KC false (fun v J'=> ∃k' t',k'<k/\K v t'/\J'=Jw prog X κ k' t' D H):=fun _ _ ⟨_,_,_,_,h⟩=> ⟨_,h▸Jw.iG⟩
noncomputable def e7:Code:=cR (cR (cR (cR (nG Tryz.f101))))
abbrev j7:FB:=⟨101,.normal,none⟩
attribute [local irreducible] IntKind.wrap DD Int.fdiv in
theorem s7 {a b:Nat}(ha:a<8)(hb:b<2)(hq:¬(a=0/\b=1))(hK:Jq prog 0 (G (cc.finish (.tuple #[])) cs)){R:Rg}
  (hR:cC [(0,.pointer (some ⟨X.Wg,0,none⟩)),(1,.int .i64 (-1)),(4,.bool false),(6,.int .u64 ((a*4294967296+b:Nat):Int))] R):
  Sc (Jq prog 1) 117 j7 (cc::cs) R [dcall 141 #[]] [.code e7]:=by
 refine Sc.drop hR ?_;have gJ:=NM X;have f3:=nU;have g1:iA .and .u64 ((a*4294967296+b:Nat):Int) 2147483648=some (.int .u64 0):=by rw[<-aP a oM b oM];rfl
 have g2:iA .and .u64 ((a*4294967296+b:Nat):Int) 2147483647=some (.int .u64 (b:Int)):=by rw[<-bP a oM b oM];rfl
 have g3:qC .shr .u64 ((a*4294967296+b:Nat):Int) 32=some (.int .u64 (a:Int)):=by rw[<-cP a oM b oM];rfl
 have g4:=rV a oM;have g5:=kQ b oM;rcases Nat.eq_zero_or_pos a with YV|YV;all_goals rcases Nat.eq_zero_or_pos b with aBi|aBi
 all_goals first
  | (exfalso;omega)
  | (
   refine .sq (.sq (.rg rfl rfl ?_));refine .m ?_;refine .i ?_ (z:=by assumption);refine .i ?_ (z:=kC oM);refine .m ?_;refine .sk ?_;refine .sk ?_;refine .x .pk ?_;refine .dn (.ff rfl (.sp (.sq ?_)));refine Sc.drop (R':= [(0,.pointer (some ⟨X.Wg,0,none⟩)),(1,.int .i64 (-1)),(4,.bool false),(6,.int .u64 ((a*4294967296+b:Nat):Int))]) ⟨rfl,rfl,rfl,rfl,trivial⟩ ?_;refine .rg rfl rfl ?_;refine .m ?_;refine .x (TB.shift rfl rfl rfl oM (by assumption)) ?_;refine .x (TB.conv rfl rfl JF xO (by assumption)) ?_;refine .g ?_;refine .dn (.sq ?_);refine Sc.drop (R':= [(0,.pointer (some ⟨X.Wg,0,none⟩)),(1,.int .i64 (-1)),(6,.int .u64 ((a*4294967296+b:Nat):Int)),(7,.int .i32 (a:Int))]) ⟨rfl,rfl,rfl,rfl,trivial⟩ ?_;refine .rg rfl rfl ?_;refine .m ?_;refine .i ?_ (z:=by assumption);refine .x (TB.conv rfl rfl JF aQ (by assumption)) ?_;refine .g ?_;refine .dn (.sq (.sq ?_));refine Sc.drop (R':= [(0,.pointer (some ⟨X.Wg,0,none⟩)),(1,.int .i64 (-1)),(7,.int .i32 (a:Int)),(8,.int .u32 (b:Int))]) ⟨rfl,rfl,rfl,rfl,trivial⟩ ?_;refine .rg rfl rfl ?_;refine .m ?_;refine .m ?_;refine .i ?_ (z:=jH oM);refine .x .pk ?_;refine .m ?_;refine .sk ?_;refine .sk ?_;refine .sk ?_;refine .sk ?_;refine .x .pk ?_;refine .dn (.ff rfl (.sp (.sq (.sq ?_))));refine Sc.drop (R':= [(0,.pointer (some ⟨X.Wg,0,none⟩)),(1,.int .i64 (-1)),(7,.int .i32 (a:Int)),(8,.int .u32 (b:Int))]) ⟨rfl,rfl,rfl,rfl,trivial⟩ ?_;refine .rg rfl rfl ?_;refine .m ?_;refine .i ?_ (z:=CJ oM);refine .dn (.ff rfl (.sp (.sq (.sq ?_))));refine Sc.drop (R':= [(0,.pointer (some ⟨X.Wg,0,none⟩)),(1,.int .i64 (-1)),(7,.int .i32 (a:Int)),(8,.int .u32 (b:Int))]) ⟨rfl,rfl,rfl,rfl,trivial⟩ ?_;refine .rg rfl rfl ?_;refine .m ?_;refine .i ?_ (z:=by first|exact NC oM|exact kC oM);refine .m ?_;first|(refine .sk ?_)|(refine .m ?_)
   first|(refine .sk ?_)|(refine .x (.it (zz:=jH oM)) ?_)
   refine .x .pk ?_;refine .m ?_;refine .sk ?_;refine .sk ?_;refine .sk ?_;refine .sk ?_;refine .x .pk ?_;refine .dn (.ff rfl (.sp (.sq (.sq ?_))));refine Sc.drop (R':= [(0,.pointer (some ⟨X.Wg,0,none⟩)),(1,.int .i64 (-1)),(7,.int .i32 (a:Int)),(8,.int .u32 (b:Int))]) ⟨rfl,rfl,rfl,rfl,trivial⟩ ?_;refine .rg rfl rfl ?_;refine .m ?_;refine .i ?_ (z:=by first|exact pI oM|exact jH oM);refine .m ?_;first|(refine .sk ?_)|(refine .m ?_)
   first|(refine .sk ?_)|(refine .x (.it (zz:=aD oM)) ?_)
   refine .x .pk ?_;refine .dn (.tt rfl ?_);refine Sc.QB Jq.cl rfl (Jq.en sN rfl (Sb.leave Jq.cl func101 rfl (.inl ⟨results101,rfl⟩) hK)))
noncomputable def aCg:Code:=cR (cR (cR (cR (cR (cR (cR e7))))))
attribute [local irreducible] IntKind.wrap DD Int.fdiv in
theorem J1 {a b k:Nat}(ne:X.Mu≠X.Wg)(a0:a=0)(b1:b=1)(hK:Jq prog 0 (G (cc.finish (.tuple #[])) cs)){R:Rg}
  (hR:cC [(0,.pointer (some ⟨X.Wg,0,none⟩)),(4,.bool false),(6,.int .u64 ((a*4294967296+b:Nat):Int)),(8,.int .u32 (b:Int))] R):Sc (Jw prog X κ k .d2 D H) 117 j7 (cc::cs) R [dcall 141 #[]] [.code aCg]:=by
 refine Sc.drop hR ?_;have gJ:=NM X;have g6:iA .sub .u32 (b:Int) 1=some (.int .u32 0):=by
  rw[b1];exact congrArg (fun x=> some (Value.int .u32 x)) (show IntKind.u32.wrap (((1:Nat):Int)-1)=0 by decide +kernel)
 have g7:iA .neq .u64 1 ((a*4294967296+b:Nat):Int)=some (.bool false):=kC oM;refine .sq (.sq (.rg rfl rfl ?_));refine .m ?_;refine .x .nk ?_;refine .x (.fa (zz:=UE)) ?_;refine So.MA rfl rfl rfl nofun rfl (.mk' rfl) rfl (vT Jw.iG kw (Jw.d2 v7)) ?_;rintro v J' ⟨k5,t,hk5,⟨rfl,rfl⟩,rfl⟩;refine .m ?_;refine .i ?_ (z:=by assumption);refine .dn (.ff rfl (.sp (.sq ?_)));refine Sc.drop (R':= [(0,.pointer (some ⟨X.Wg,0,none⟩)),(4,.bool false),(6,.int .u64 ((a*4294967296+b:Nat):Int)),(8,.int .u32 (b:Int))]) ⟨rfl,rfl,rfl,rfl,trivial⟩ ?_;refine .rg rfl rfl ?_;refine .m ?_;refine .x .nk ?_;refine .x (.fa (zz:=UE)) ?_;refine So.MA rfl rfl rfl nofun rfl (.mk' rfl) rfl (X4 Jw.iG kw (fun v J' ⟨_,_,_,h,_⟩=> h.1) (Jw.d3 ne aCH)) ?_;rintro v J' ⟨k6,t,hk6,⟨rfl,rfl⟩,rfl⟩;refine .dn (.sq (.sq ?_));refine Sc.drop (R':= [(0,.pointer (some ⟨X.Wg,0,none⟩)),(4,.bool false),(6,.int .u64 ((a*4294967296+b:Nat):Int)),(8,.int .u32 (b:Int))]) ⟨rfl,rfl,rfl,rfl,trivial⟩ ?_;refine .rg rfl rfl ?_;refine .m ?_;refine .dn (.ff rfl (.sp (.bl ?_)));refine Sc.loop (by exact Jw.iG) ?_;refine .sq (.sq (.rg rfl rfl ?_));refine .m ?_;refine .i ?_ (z:=NC oM);refine .dn (.tt rfl (.sp (.sq (.bl ?_))));refine Sc.drop (R':= [(0,.pointer (some ⟨X.Wg,0,none⟩)),(4,.bool false),(6,.int .u64 ((a*4294967296+b:Nat):Int)),(8,.int .u32 (b:Int))]) ⟨rfl,rfl,rfl,rfl,trivial⟩ ?_;refine .rg rfl rfl ?_;refine .m ?_;refine .x .nk ?_;refine .x (.fa (zz:=uJ)) ?_;refine So.MA rfl rfl rfl nofun rfl (.mk' rfl) rfl (Jw.d4 (vs:= [.pointer (some ⟨X.Wg,1,none⟩),.bool false,.int .i64 0]) ne aCD rfl) ?_;rintro v J' ⟨k7,t,hk7,⟨rfl,rfl⟩,rfl⟩;refine So.mono ?_ (fun g=> Jq.jw);refine .dn (.ib ?_);refine Sc.drop (R':= [(0,.pointer (some ⟨X.Wg,0,none⟩)),(4,.bool false),(6,.int .u64 ((a*4294967296+b:Nat):Int)),(8,.int .u32 (b:Int))]) ⟨rfl,rfl,rfl,rfl,trivial⟩ ?_;refine .rg rfl rfl ?_;refine .m ?_;refine .i ?_ (z:=by assumption);refine .g ?_;refine .dn ?_;refine Sc.inLoop (by exact Jq.cl) ?_;refine Sc.drop (R':= [(8,.int .u32 0)]) ⟨rfl,trivial⟩ ?_;refine .sq (.sq (.rg rfl rfl ?_));refine .m ?_;refine .i ?_ (z:=kC oM);refine .dn (.ff rfl (.xt rfl ?_));refine Sc.over Jq.cl rfl (Jq.en sN rfl (Sb.leave Jq.cl func101 rfl (.inl ⟨results101,rfl⟩) hK))
attribute [local irreducible] IntKind.wrap DD Int.fdiv in
theorem r7 {a b k:Nat}(ne:X.Mu≠X.Wg)(a0:a=0)(b1:b=1)(hK:Jq prog 0 (G (cc.finish (.tuple #[])) cs)){R:Rg}
  (hR:cC [(0,.pointer (some ⟨X.Wg,0,none⟩)),(1,.int .i64 (-1)),(4,.bool false),(6,.int .u64 ((a*4294967296+b:Nat):Int))] R):Sc (Jw prog X κ k .d2 D H) 117 j7 (cc::cs) R [dcall 141 #[]] [.code e7]:=by
 refine Sc.drop hR ?_;have gJ:=NM X;have f3:=nU;have g1:iA .and .u64 ((a*4294967296+b:Nat):Int) 2147483648=some (.int .u64 0):=by rw[<-aP a oM b oM];rfl
 have g2:iA .and .u64 ((a*4294967296+b:Nat):Int) 2147483647=some (.int .u64 (b:Int)):=by rw[<-bP a oM b oM];rfl
 have g3:qC .shr .u64 ((a*4294967296+b:Nat):Int) 32=some (.int .u64 (a:Int)):=by rw[<-cP a oM b oM];rfl
 have g4:=rV a oM;have g5:=kQ b oM;refine .sq (.sq (.rg rfl rfl ?_));refine .m ?_;refine .i ?_ (z:=by assumption);refine .i ?_ (z:=kC oM);refine .m ?_;refine .sk ?_;refine .sk ?_;refine .x .pk ?_;refine .dn (.ff rfl (.sp (.sq ?_)));refine Sc.drop (R':= [(0,.pointer (some ⟨X.Wg,0,none⟩)),(1,.int .i64 (-1)),(4,.bool false),(6,.int .u64 ((a*4294967296+b:Nat):Int))]) ⟨rfl,rfl,rfl,rfl,trivial⟩ ?_;refine .rg rfl rfl ?_;refine .m ?_;refine .x (TB.shift rfl rfl rfl oM (by assumption)) ?_;refine .x (TB.conv rfl rfl JF xO (by assumption)) ?_;refine .g ?_;refine .dn (.sq ?_);refine Sc.drop (R':= [(0,.pointer (some ⟨X.Wg,0,none⟩)),(1,.int .i64 (-1)),(4,.bool false),(6,.int .u64 ((a*4294967296+b:Nat):Int)),(7,.int .i32 (a:Int))]) ⟨rfl,rfl,rfl,rfl,rfl,trivial⟩ ?_;refine .rg rfl rfl ?_;refine .m ?_;refine .i ?_ (z:=by assumption);refine .x (TB.conv rfl rfl JF aQ (by assumption)) ?_;refine .g ?_;refine .dn (.sq (.sq ?_));refine Sc.drop (R':= [(0,.pointer (some ⟨X.Wg,0,none⟩)),(1,.int .i64 (-1)),(4,.bool false),(6,.int .u64 ((a*4294967296+b:Nat):Int)),(7,.int .i32 (a:Int)),(8,.int .u32 (b:Int))]) ⟨rfl,rfl,rfl,rfl,rfl,rfl,trivial⟩ ?_;refine .rg rfl rfl ?_;refine .m ?_;refine .m ?_;refine .i ?_ (z:=jH oM);refine .x .pk ?_;refine .m ?_;refine .sk ?_;refine .sk ?_;refine .sk ?_;refine .sk ?_;refine .x .pk ?_;refine .dn (.ff rfl (.sp (.sq (.sq ?_))));refine Sc.drop (R':= [(0,.pointer (some ⟨X.Wg,0,none⟩)),(1,.int .i64 (-1)),(4,.bool false),(6,.int .u64 ((a*4294967296+b:Nat):Int)),(7,.int .i32 (a:Int)),(8,.int .u32 (b:Int))]) ⟨rfl,rfl,rfl,rfl,rfl,rfl,trivial⟩ ?_;refine .rg rfl rfl ?_;refine .m ?_;refine .i ?_ (z:=CJ oM);refine .dn (.ff rfl (.sp (.sq (.sq ?_))));refine Sc.drop (R':= [(0,.pointer (some ⟨X.Wg,0,none⟩)),(1,.int .i64 (-1)),(4,.bool false),(6,.int .u64 ((a*4294967296+b:Nat):Int)),(7,.int .i32 (a:Int)),(8,.int .u32 (b:Int))]) ⟨rfl,rfl,rfl,rfl,rfl,rfl,trivial⟩ ?_;refine .rg rfl rfl ?_;refine .m ?_;refine .i ?_ (z:=NC oM);refine .m ?_;refine .m ?_;refine .i ?_ (z:=jH oM);refine .x .pk ?_;refine .m ?_;refine .sk ?_;refine .sk ?_;refine .sk ?_;refine .sk ?_;refine .x .pk ?_;refine .dn (.ff rfl (.sp (.sq (.sq ?_))));refine Sc.drop (R':= [(0,.pointer (some ⟨X.Wg,0,none⟩)),(1,.int .i64 (-1)),(4,.bool false),(6,.int .u64 ((a*4294967296+b:Nat):Int)),(7,.int .i32 (a:Int)),(8,.int .u32 (b:Int))]) ⟨rfl,rfl,rfl,rfl,rfl,rfl,trivial⟩ ?_;refine .rg rfl rfl ?_;refine .m ?_;refine .i ?_ (z:=jH oM);refine .m ?_;refine .m ?_;refine .i ?_ (z:=XB oM);refine .x .pk ?_;refine .dn (.ff rfl (.sp ?_));exact J1 ne a0 b1 hK ⟨rfl,rfl,rfl,rfl,trivial⟩
attribute [local irreducible] IntKind.wrap DD Int.fdiv in
theorem L1 {k:Nat}(ne:X.Mu≠X.Wg):yD (Jw prog X κ k .wr D H) 101 [.pointer (some ⟨X.Wg,0,none⟩),.int .i64 (-1)] fun v J'=> v=.tuple #[]/\J'=Jq prog 0:=by
 refine cJ.at (by exact Jw.jG rfl) G5 (cJ.enter (vs:= [.pointer (some ⟨X.Wg,0,none⟩),.int .i64 (-1)]) func101 rfl ntmps101 (Nat.le_of_ble_eq_true rfl) fun c cs hK=> ?_);have gJ:=NM X;have f1:=aAk;have f2:=S4;have f3:=nU;refine .sq (.tt rfl (.sq (.sq (.rg rfl rfl ?_))));refine .m ?_;refine .i ?_ (z:=dO oM);refine .dn (.tt rfl (.rg rfl rfl ?_));refine .m ?_;refine .x (TB.raw rfl rfl iU CH cU (by assumption)) ?_;refine So.MA rfl rfl rfl nofun rfl (.mk' rfl) rfl (Jw.wr aAT) ?_;rintro v J' ⟨rfl,k1,aT,rfl⟩;refine .dn (.sq (.rg rfl rfl ?_));refine So.MA rfl rfl rfl nofun rfl (.mk' rfl) rfl (Jw.wk zX) ?_;rintro v J' ⟨k2,t,yN,⟨rfl,rfl⟩,rfl⟩;refine .dn (.rg rfl rfl ?_);refine So.defer Jw.iG (f:=141) (vs:= []) rfl nofun rfl rfl ⟨_,rfl⟩ rfl ?_;refine .dn (.sq ?_);refine Sc.drop (R':= [(0,.pointer (some ⟨X.Wg,0,none⟩)),(1,.int .i64 (-1))]) ⟨rfl,rfl,trivial⟩ ?_;refine .rg rfl rfl ?_;refine .g ?_;refine .dn (.sq (.sq (.rg rfl rfl ?_)));refine So.MA rfl rfl rfl nofun rfl (.mk' rfl) rfl (Jw.wi aAU) ?_;rintro v J' ⟨k3,t,w6,⟨rfl,rfl⟩,rfl⟩;refine .dn (.ff rfl (.sp (.sq ?_)));refine Sc.drop (R':= [(0,.pointer (some ⟨X.Wg,0,none⟩)),(1,.int .i64 (-1)),(4,.bool false)]) ⟨rfl,rfl,rfl,trivial⟩ ?_;refine .rg rfl rfl ?_;refine .m ?_;refine .x .nk ?_;refine .x (.fa (zz:=UE)) ?_;refine .m ?_;refine .x (TB.conv rfl rfl p5 JF (by assumption)) ?_;refine .x (TB.shift rfl rfl rfl oM (by assumption)) ?_;refine So.MA rfl rfl rfl nofun rfl (.mk' rfl) rfl (D5 Jw.iG kw (Jw.d1 ne aAV)) ?_;rintro v J' ⟨k4,t,hk4,⟨a,b,ha,hb,rfl,rfl⟩,rfl⟩;by_cases hq:a=0/\b=1
 ·rw[if_pos hq];refine .g ?_;refine .dn ?_;exact r7 ne hq.1 hq.2 (hK _ _ ⟨rfl,rfl⟩) ⟨rfl,rfl,rfl,rfl,trivial⟩
 ·rw[if_neg hq];refine So.mono ?_ (fun g=> Jq.jw);refine .g ?_;refine .dn ?_;exact s7 oM oM hq (hK _ _ ⟨rfl,rfl⟩) ⟨rfl,rfl,rfl,rfl,trivial⟩
theorem u7 {k n:Nat}{b:FB}{R:Rg}{ds:List Deferred}(hb:b.rd=none)(ne:X.Mu≠X.Wg)
  (h:Sb (Jq prog 0) n b cs R ds):Sb (Jw prog X κ k .wr D H) n b cs R (dcall 103 #[.pointer (some ⟨X.Wg,0,none⟩)]::ds):=by
 refine Sb.BX (vs:= [.pointer (some ⟨X.Wg,0,none⟩)]) Jw.iG hb func103 kR rfl ntmps103 (Nat.le_of_ble_eq_true rfl) fun c hm hc=> ?_;refine .rg rfl rfl ?_;refine .m ?_;refine So.MA rfl rfl rfl nofun rfl (.mk' rfl) rfl (L1 ne) ?_;rintro v J' ⟨rfl,rfl⟩;refine .dn ?_;refine Sc.over Jq.cl rfl (Sb.leaveD Jq.cl func103 rfl results103 (.inl hm) (hc _ h))
end
section
variable {X:Fk}{H:View}{Fin:Goroutine->Prop}{j:Nat}{cc:Frame}{cs:List Frame}
theorem km {K:Value->Mn->Prop}{k:Nat}:KC true (fun v J'=> ∃k' m',k'<k/\K v m'/\J'=Jm prog X Fin k' m' j H):=fun _ _ ⟨_,_,_,_,h⟩=> ⟨_,h▸Jm.cl⟩
theorem aB7:IntKind.i32.wrap 1=1:=by decide +kernel
attribute [local irreducible] IntKind.wrap DD Int.fdiv in
theorem jX {k:Nat}(ne:X.Mu≠X.Wg):yD (Jm prog X Fin k .kd j H) 101 [.pointer (some ⟨X.Wg,0,none⟩),.int .i64 1] fun v J'=> v=.tuple #[]/\∃k',J'=Jm prog X Fin k' .go j H:=by
 refine cJ.at (by exact Jm.cl) G5 (cJ.enter (vs:= [.pointer (some ⟨X.Wg,0,none⟩),.int .i64 1]) func101 rfl ntmps101 (Nat.le_of_ble_eq_true rfl) fun c cs hK=> ?_);have gJ:=lV X;have f1:=aB8;have f2:=Z9;have f3:=aB7;refine .sq (.tt rfl (.sq (.sq (.rg rfl rfl ?_))));refine .m ?_;refine .i ?_ (z:=CJ oM);refine .dn (.ff rfl (.sp (.sq (.rg rfl rfl ?_))));refine So.MA rfl rfl rfl nofun rfl (.mk' rfl) rfl (Jm.kd zX) ?_;rintro v J' ⟨k2,t,yN,⟨rfl,rfl⟩,rfl⟩;refine .dn (.rg rfl rfl ?_);refine So.defer Jm.cl (f:=141) (vs:= []) rfl nofun rfl rfl ⟨_,rfl⟩ rfl ?_;refine .dn (.sq (.rg rfl rfl ?_));refine .g ?_;refine .dn (.sq (.sq (.rg rfl rfl ?_)));refine So.MA rfl rfl rfl nofun rfl (.mk' rfl) rfl (Jm.ki aAU) ?_;rintro v J' ⟨k3,t,w6,⟨rfl,rfl⟩,rfl⟩;refine .dn (.ff rfl (.sp (.sq (.rg rfl rfl ?_))));refine .m ?_;refine .x .nk ?_;refine .x (.fa (zz:=UE)) ?_;refine .m ?_;refine .x (TB.conv rfl rfl p5 JF (by assumption)) ?_;refine .x (TB.shift rfl rfl rfl oM (by assumption)) ?_;refine So.MA rfl rfl rfl nofun rfl (.mk' rfl) rfl (D5 Jm.cl km (Jm.ka ne aAV)) ?_;rintro v J' ⟨k4,t,hk4,⟨a,ha,rfl,rfl⟩,rfl⟩;have e0:(((a+1)*4294967296:Nat):Int)=(((a+1)*4294967296+0:Nat):Int):=(congrArg (fun x:Nat=> (x:Int)) (Nat.add_zero _)).symm;have g1:iA .and .u64 (((a+1)*4294967296:Nat):Int) 2147483648=some (.int .u64 0):=by rw[e0,<-aP (a+1) oM 0 oM];rfl
 have g2:iA .and .u64 (((a+1)*4294967296:Nat):Int) 2147483647=some (.int .u64 0):=by
  have:=bP (a+1) oM 0 oM;rw[e0];exact congrArg (fun x=> some (Value.int .u64 x)) this
 have g3:qC .shr .u64 (((a+1)*4294967296:Nat):Int) 32=some (.int .u64 ((a+1:Nat):Int)):=by rw[e0,<-cP (a+1) oM 0 oM];rfl
 have g4:=rV (a+1) oM;have g5:IntKind.u32.wrap 0=0:=kQ 0 oM;have gg:(0:Int)<((a+1:Nat):Int):=by omega
 refine .g ?_;refine .dn ?_;refine Sc.drop (R':= [(0,.pointer (some ⟨X.Wg,0,none⟩)),(1,.int .i64 1),(4,.bool false),(6,.int .u64 (((a+1)*4294967296:Nat):Int))]) ⟨rfl,rfl,rfl,rfl,trivial⟩ ?_;refine .sq (.sq (.rg rfl rfl ?_));refine .m ?_;refine .i ?_ (z:=by assumption);refine .i ?_ (z:=kC oM);refine .m ?_;refine .sk ?_;refine .sk ?_;refine .x .pk ?_;refine .dn (.ff rfl (.sp (.sq ?_)));refine Sc.drop (R':= [(0,.pointer (some ⟨X.Wg,0,none⟩)),(1,.int .i64 1),(4,.bool false),(6,.int .u64 (((a+1)*4294967296:Nat):Int))]) ⟨rfl,rfl,rfl,rfl,trivial⟩ ?_;refine .rg rfl rfl ?_;refine .m ?_;refine .x (TB.shift rfl rfl rfl oM (by assumption)) ?_;refine .x (TB.conv rfl rfl JF xO (by assumption)) ?_;refine .g ?_;refine .dn ?_;refine Sc.drop (R':= [(0,.pointer (some ⟨X.Wg,0,none⟩)),(1,.int .i64 1),(4,.bool false),(6,.int .u64 (((a+1)*4294967296:Nat):Int)),(7,.int .i32 ((a+1:Nat):Int))]) ⟨rfl,rfl,rfl,rfl,rfl,trivial⟩ ?_;refine .sq (.rg rfl rfl ?_);refine .m ?_;refine .i ?_ (z:=by assumption);refine .x (TB.conv rfl rfl JF aQ (by assumption)) ?_;refine .g ?_;refine .dn ?_;refine Sc.drop (R':= [(0,.pointer (some ⟨X.Wg,0,none⟩)),(1,.int .i64 1),(4,.bool false),(7,.int .i32 ((a+1:Nat):Int)),(8,.int .u32 0)]) ⟨rfl,rfl,rfl,rfl,rfl,trivial⟩ ?_;refine .sq (.sq ?_);by_cases hz:a=0
 ·rw[if_pos hz];have q1:iA .eql .i32 ((a+1:Nat):Int) 1=some (.bool true):=aD oM;refine .rg rfl rfl ?_;refine .m ?_;refine .m ?_;refine .i ?_ (z:=pI oM);refine .x .pk ?_;refine .m ?_;refine .m ?_;refine .m ?_;refine .x (TB.conv rfl rfl p5 xO (by assumption)) ?_;refine .i ?_ (z:=by assumption);refine .x .pk ?_;refine .dn (.tt rfl ?_);refine Sc.drop (R':= [(0,.pointer (some ⟨X.Wg,0,none⟩)),(1,.int .i64 1),(4,.bool false),(7,.int .i32 ((a+1:Nat):Int)),(8,.int .u32 0)]) ⟨rfl,rfl,rfl,rfl,rfl,trivial⟩ ?_;refine .rg rfl rfl ?_;refine .m ?_;refine .x .nk ?_;refine .x (.fa (zz:=uJ)) ?_;refine .x (TB.raw rfl rfl qZ CH jZ (by assumption)) ?_;refine So.MA rfl rfl rfl nofun rfl (.mk' rfl) rfl (Jm.kr aCC) ?_;rintro v J' ⟨rfl,k5,hk5,rfl⟩;refine .dn ?_;refine Sc.drop (R':= [(0,.pointer (some ⟨X.Wg,0,none⟩)),(1,.int .i64 1),(4,.bool false),(7,.int .i32 ((a+1:Nat):Int)),(8,.int .u32 0)]) ⟨rfl,rfl,rfl,rfl,rfl,trivial⟩ ?_;refine .sq (.sq (.rg rfl rfl ?_));refine .m ?_;refine .i ?_ (z:=CJ oM);refine .dn (.ff rfl (.sp (.sq (.sq (.rg rfl rfl ?_)))));refine .m ?_;refine .i ?_ (z:=kC oM);refine .m ?_;refine .sk ?_;refine .sk ?_;refine .x .pk ?_;refine .m ?_;refine .sk ?_;refine .sk ?_;refine .sk ?_;refine .sk ?_;refine .x .pk ?_;refine .dn (.ff rfl (.sp (.sq (.sq ?_))));refine Sc.drop (R':= [(0,.pointer (some ⟨X.Wg,0,none⟩)),(1,.int .i64 1),(4,.bool false),(7,.int .i32 ((a+1:Nat):Int)),(8,.int .u32 0)]) ⟨rfl,rfl,rfl,rfl,rfl,trivial⟩ ?_;refine .rg rfl rfl ?_;refine .m ?_;refine .i ?_ (z:=pI oM);refine .m ?_;refine .sk ?_;refine .sk ?_;refine .x .pk ?_;refine .dn (.tt rfl ?_);refine Sc.QB Jm.cl rfl (Jm.ke sN rfl (fun k' _=> Sb.leave Jm.cl func101 rfl (.inl ⟨results101,rfl⟩) (hK _ _ ⟨rfl,k',rfl⟩)))
 ·rw[if_neg hz];have q1:iA .eql .i32 ((a+1:Nat):Int) 1=some (.bool false):=XB oM;refine .rg rfl rfl ?_;refine .m ?_;refine .m ?_;refine .i ?_ (z:=pI oM);refine .x .pk ?_;refine .m ?_;refine .m ?_;refine .m ?_;refine .x (TB.conv rfl rfl p5 xO (by assumption)) ?_;refine .i ?_ (z:=by assumption);refine .x .pk ?_;refine .dn (.ff rfl (.sp (.sq (.sq ?_))));refine Sc.drop (R':= [(0,.pointer (some ⟨X.Wg,0,none⟩)),(1,.int .i64 1),(4,.bool false),(7,.int .i32 ((a+1:Nat):Int)),(8,.int .u32 0)]) ⟨rfl,rfl,rfl,rfl,rfl,trivial⟩ ?_;refine .rg rfl rfl ?_;refine .m ?_;refine .i ?_ (z:=CJ oM);refine .dn (.ff rfl (.sp (.sq (.sq (.rg rfl rfl ?_)))));refine .m ?_;refine .i ?_ (z:=kC oM);refine .m ?_;refine .sk ?_;refine .sk ?_;refine .x .pk ?_;refine .m ?_;refine .sk ?_;refine .sk ?_;refine .sk ?_;refine .sk ?_;refine .x .pk ?_;refine .dn (.ff rfl (.sp (.sq (.sq ?_))));refine Sc.drop (R':= [(0,.pointer (some ⟨X.Wg,0,none⟩)),(1,.int .i64 1),(4,.bool false),(7,.int .i32 ((a+1:Nat):Int)),(8,.int .u32 0)]) ⟨rfl,rfl,rfl,rfl,rfl,trivial⟩ ?_;refine .rg rfl rfl ?_;refine .m ?_;refine .i ?_ (z:=pI oM);refine .m ?_;refine .sk ?_;refine .sk ?_;refine .x .pk ?_;refine .dn (.tt rfl ?_);refine Sc.QB Jm.cl rfl (Jm.ke sN rfl (fun k' _=> Sb.leave Jm.cl func101 rfl (.inl ⟨results101,rfl⟩) (hK _ _ ⟨rfl,k',rfl⟩)))
end
section
variable {X:Fk}{H:View}{Fin:Goroutine->Prop}{j:Nat}{cc:Frame}{cs:List Frame}
noncomputable def aAo:Code:=cB (cB (cR (nG Tryz.f107)))
abbrev aCn:FB:=⟨107,.normal,none⟩
attribute [local irreducible] IntKind.wrap DD Int.fdiv in
theorem MW(hc:Cl prog true xT Fin)(ne:X.Mu≠X.Wg)(hK:Fin (G (cc.finish (.tuple #[])) cs))(k:Nat):∀R:Rg,cC [(0,.pointer (some ⟨X.Wg,0,none⟩))] R->Sc (Jm prog X Fin k .w1 j H) 84 aCn (cc::cs) R [] [.code aAo,.inLoop aAo,.inBlock 0]:=by
 induction k using Nat.strongRecOn with
 | ind k IH=>
  intro R hR;refine Sc.drop hR ?_;have gJ:=NM X;have aDy:=lV X;refine Sc.block (by first|exact Jm.cl|exact hc) ?_;refine Sc.seq (by first|exact Jm.cl|exact hc) ?_;refine .rg rfl rfl ?_;refine .m ?_;refine .x .nk ?_;refine .x (.fa (zz:=UE)) ?_;refine So.MA rfl rfl rfl nofun rfl (.mk' rfl) rfl (vT Jm.cl km (Jm.w1 v7)) ?_;rintro v J' ⟨k1,t,aT,⟨a,ha,rfl,rfl⟩,rfl⟩;have e0:((a*4294967296:Nat):Int)=((a*4294967296+0:Nat):Int):=(congrArg (fun x:Nat=> (x:Int)) (Nat.add_zero _)).symm;have g1:iA .and .u64 ((a*4294967296:Nat):Int) 2147483648=some (.int .u64 0):=by rw[e0,<-aP a oM 0 oM];rfl
  have g2:iA .and .u64 ((a*4294967296:Nat):Int) 2147483647=some (.int .u64 0):=by
   have:=bP a oM 0 oM;rw[e0];exact congrArg (fun x=> some (Value.int .u64 x)) this
  have g3:qC .shr .u64 ((a*4294967296:Nat):Int) 32=some (.int .u64 (a:Int)):=by rw[e0,<-cP a oM 0 oM];rfl
  have g4:=rV a oM;have g5:IntKind.u32.wrap 0=0:=kQ 0 oM;have g6:iA .add .u64 ((a*4294967296:Nat):Int) 1=some (.int .u64 ((a*4294967296+1:Nat):Int)):=by
   have h:∀a:Nat,a<8->IntKind.u64.wrap (((a*4294967296:Nat):Int)+1)=((a*4294967296+1:Nat):Int):=by decide +kernel
   exact congrArg (fun x=> some (Value.int .u64 x)) (h a oM)
  refine .g ?_;refine .dn ?_;refine Sc.drop (R':= [(0,.pointer (some ⟨X.Wg,0,none⟩)),(2,.int .u64 ((a*4294967296:Nat):Int))]) ⟨rfl,rfl,trivial⟩ ?_;refine Sc.seq (by first|exact Jm.cl|exact hc) ?_;refine .rg rfl rfl ?_;refine .m ?_;refine .x (TB.shift rfl rfl rfl oM (by assumption)) ?_;refine .x (TB.conv rfl rfl JF xO (by assumption)) ?_;refine .g ?_;refine .dn ?_;refine Sc.drop (R':= [(0,.pointer (some ⟨X.Wg,0,none⟩)),(2,.int .u64 ((a*4294967296:Nat):Int)),(3,.int .i32 (a:Int))]) ⟨rfl,rfl,rfl,trivial⟩ ?_;refine Sc.seq (by first|exact Jm.cl|exact hc) ?_;refine .rg rfl rfl ?_;refine .m ?_;refine .i ?_ (z:=by assumption);refine .x (TB.conv rfl rfl JF aQ (by assumption)) ?_;refine .g ?_;refine .dn ?_;refine Sc.drop (R':= [(0,.pointer (some ⟨X.Wg,0,none⟩)),(2,.int .u64 ((a*4294967296:Nat):Int)),(3,.int .i32 (a:Int)),(4,.int .u32 0)]) ⟨rfl,rfl,rfl,rfl,trivial⟩ ?_;refine Sc.seq (by first|exact Jm.cl|exact hc) ?_;refine Sc.seq (by first|exact Jm.cl|exact hc) ?_;by_cases hz:a=0
  ·rw[if_pos hz];have q1:iA .eql .i32 (a:Int) 0=some (.bool true):=aD oM;refine .rg rfl rfl ?_;refine .m ?_;refine .i ?_ (z:=by assumption);refine .dn ?_;refine Sc.cond (by first|exact Jm.cl|exact hc) (t:=true) rfl (fun _=> ?_) (fun h=> nomatch h);refine Sc.seq (by first|exact Jm.cl|exact hc) ?_;refine Sc.cond (by first|exact Jm.cl|exact hc) (t:=true) rfl (fun _=> ?_) (fun h=> nomatch h);refine Sc.seq (by first|exact Jm.cl|exact hc) ?_;refine .rg rfl rfl ?_;refine So.MA rfl rfl rfl nofun rfl (.mk' rfl) rfl (Jm.we sN) ?_;rintro v J' ⟨k2,t,yN,⟨rfl,rfl⟩,rfl⟩;refine .dn (.rg rfl rfl ?_);refine .m ?_;refine .x (TB.raw rfl rfl iU CH cU (by assumption)) ?_;refine So.MA rfl rfl rfl nofun rfl (.mk' rfl) rfl (Jm.aq M1) ?_;rintro v J' ⟨rfl,rfl⟩;refine .dn (.sq (.sq (.rg rfl rfl ?_)));refine .m ?_;refine .i ?_ (z:=aD oM);refine .m ?_;refine .m ?_;refine .i ?_ (z:=by assumption);refine .i ?_ (z:=kC oM);refine .x .pk ?_;refine .m ?_;refine .sk ?_;refine .sk ?_;refine .x .pk ?_;refine .dn (.ff rfl (.sp ?_));refine Sc.QB (by exact hc) rfl (Sb.leave (by exact hc) func107 rfl (by exact .inl ⟨results107,rfl⟩) ?_);exact hK
  ·rw[if_neg hz];have q1:iA .eql .i32 (a:Int) 0=some (.bool false):=XB oM;refine .rg rfl rfl ?_;refine .m ?_;refine .i ?_ (z:=by assumption);refine .dn ?_;refine Sc.cond (by first|exact Jm.cl|exact hc) (t:=false) rfl (fun h=> nomatch h) (fun _=> ?_);refine Sc.skip (by first|exact Jm.cl|exact hc) ?_;refine Sc.seq (by first|exact Jm.cl|exact hc) ?_;refine .rg rfl rfl ?_;refine .m ?_;refine .x .nk ?_;refine .x (.fa (zz:=UE)) ?_;refine .m ?_;refine .m ?_;refine .i ?_ (z:=by assumption);refine So.MA rfl rfl rfl nofun rfl (.mk' rfl) rfl (aAQ Jm.cl km (Jm.w2 ne aCI)) ?_;rintro v J' ⟨k2,t,yN,⟨rfl,rfl⟩|⟨rfl,rfl⟩,rfl⟩
   ·refine .dn ?_;refine Sc.cond (by first|exact Jm.cl|exact hc) (t:=true) rfl (fun _=> ?_) (fun h=> nomatch h);refine Sc.seq (by first|exact Jm.cl|exact hc) ?_;refine Sc.seq (by first|exact Jm.cl|exact hc) ?_;refine Sc.drop (R':= [(0,.pointer (some ⟨X.Wg,0,none⟩)),(2,.int .u64 ((a*4294967296:Nat):Int)),(4,.int .u32 0)]) ⟨rfl,rfl,rfl,trivial⟩ ?_;refine .rg rfl rfl ?_;refine .m ?_;refine .m ?_;refine .i ?_ (z:=aD oM);refine .x .pk ?_;refine .dn ?_;refine Sc.cond (by first|exact Jm.cl|exact hc) (t:=true) rfl (fun _=> ?_) (fun h=> nomatch h);refine .rg rfl rfl ?_;refine .m ?_;refine .x .nk ?_;refine .x (.fa (zz:=uJ)) ?_;refine .x (TB.raw rfl rfl qZ CH jZ (by assumption)) ?_;refine So.MA rfl rfl rfl nofun rfl (.mk' rfl) rfl (Jm.wm aCE) ?_;rintro v J' ⟨rfl,k3,w6,rfl⟩;refine .dn ?_;refine Sc.drop (R':= [(0,.pointer (some ⟨X.Wg,0,none⟩)),(2,.int .u64 ((a*4294967296:Nat):Int)),(4,.int .u32 0)]) ⟨rfl,rfl,rfl,trivial⟩ ?_;refine Sc.seq (by first|exact Jm.cl|exact hc) ?_;refine .rg rfl rfl ?_;refine .g ?_;refine .dn ?_;refine Sc.seq (by first|exact Jm.cl|exact hc) ?_;refine Sc.seq (by first|exact Jm.cl|exact hc) ?_;refine .rg rfl rfl ?_;refine .m ?_;refine .i ?_ (z:=by assumption);refine .i ?_ (z:=kC oM);refine .m ?_;refine .sk ?_;refine .x .pk ?_;refine .dn ?_;refine Sc.cond (by first|exact Jm.cl|exact hc) (t:=false) rfl (fun h=> nomatch h) (fun _=> ?_);refine Sc.skip (by first|exact Jm.cl|exact hc) ?_;refine Sc.seq (by first|exact Jm.cl|exact hc) ?_;refine .rg rfl rfl ?_;refine .m ?_;refine .x .nk ?_;refine .x (.fa (zz:=uJ)) ?_;refine .m ?_;refine So.MA rfl rfl rfl nofun rfl (.mk' rfl) rfl (Jm.ws (vs:= [.pointer (some ⟨X.Wg,1,none⟩),.bool false]) ne aCF rfl) ?_;rintro v J' ⟨k4,t,hk4,⟨rfl,rfl⟩,rfl⟩;refine .dn ?_;refine Sc.drop (R':= [(0,.pointer (some ⟨X.Wg,0,none⟩))]) ⟨rfl,trivial⟩ ?_;refine Sc.seq (by first|exact Jm.cl|exact hc) ?_;refine .rg rfl rfl ?_;refine .m ?_;refine .x .nk ?_;refine .x (.fa (zz:=UE)) ?_;refine So.MA rfl rfl rfl nofun rfl (.mk' rfl) rfl (vT Jm.cl km (Jm.w4 v7)) ?_;rintro v J' ⟨k5,t,hk5,⟨rfl,rfl⟩,rfl⟩;refine .i ?_ (z:=kC oM);refine .g ?_;refine .dn ?_;refine Sc.seq (by first|exact Jm.cl|exact hc) ?_;refine Sc.cond (by first|exact Jm.cl|exact hc) (t:=true) rfl (fun _=> ?_) (fun h=> nomatch h);refine Sc.seq (by first|exact Jm.cl|exact hc) ?_;refine .rg rfl rfl ?_;refine So.MA rfl rfl rfl nofun rfl (.mk' rfl) rfl (Jm.we sN) ?_;rintro v J' ⟨k6,t,hk6,⟨rfl,rfl⟩,rfl⟩;refine .dn (.rg rfl rfl ?_);refine .m ?_;refine .x (TB.raw rfl rfl iU CH cU (by assumption)) ?_;refine So.MA rfl rfl rfl nofun rfl (.mk' rfl) rfl (Jm.aq M1) ?_;rintro v J' ⟨rfl,rfl⟩;refine .dn (.sq (.sq (.rg rfl rfl ?_)));refine .m ?_;refine .dn (.ff rfl (.sp ?_));refine Sc.QB (by exact hc) rfl (Sb.leave (by exact hc) func107 rfl (by exact .inl ⟨results107,rfl⟩) ?_);exact hK
   ·refine .dn ?_;refine Sc.cond (by first|exact Jm.cl|exact hc) (t:=false) rfl (fun h=> nomatch h) (fun _=> ?_);refine Sc.skip (by first|exact Jm.cl|exact hc) ?_;refine Sc.inBlock (by first|exact Jm.cl|exact hc) ?_;refine Sc.inLoop (by exact Jm.cl) ?_;exact IH k2 oM _ ⟨rfl,trivial⟩
theorem aAl {k:Nat}(hc:Cl prog true xT Fin)(ne:X.Mu≠X.Wg):yD (Jm prog X Fin k .wd j H) 107 [.pointer (some ⟨X.Wg,0,none⟩)] fun v J'=> v=.tuple #[]/\J'=Fin:=by
 refine cJ.at (by exact Jm.cl) aAD (cJ.enter (vs:= [.pointer (some ⟨X.Wg,0,none⟩)]) func107 rfl ntmps107 (Nat.le_of_ble_eq_true rfl) fun c cs hK=> ?_);refine Sc.seq (by first|exact Jm.cl|exact hc) ?_;refine Sc.cond (by first|exact Jm.cl|exact hc) (t:=true) rfl (fun _=> ?_) (fun h=> nomatch h);refine .rg rfl rfl ?_;refine So.MA rfl rfl rfl nofun rfl (.mk' rfl) rfl (Jm.wd zX) ?_;rintro v J' ⟨k2,t,yN,⟨rfl,rfl⟩,rfl⟩;refine .dn ?_;refine Sc.block (by first|exact Jm.cl|exact hc) ?_;refine Sc.loop (by exact Jm.cl) ?_;exact MW hc ne (hK _ _ ⟨rfl,rfl⟩) k2 _ ⟨rfl,trivial⟩
end
set_option maxHeartbeats 4000000
theorem BC {H:View}{b:Nat}{f:Bool}{o:Obj}(h:H b=some (f,o)):ro H b=some (false,o):=by simp[ro,h]
theorem LD {H:View}{b:Nat}(h:H b=none):ro H b=none:=by simp[ro,h]
theorem kG.of {H H':View}{c:Ch}{lb lo lc:Nat}{A:Option Addr}(h:kG H c lb lo lc A)(k:∀b f o,H b=some (f,o)->∃f',H' b=some (f',o)):kG H' c lb lo lc A:=by
 obtain⟨⟨f,gs,gt,gz,h1,h2⟩,h3,h4⟩:=h;obtain⟨f',h1'⟩:=k _ _ _ h1;refine⟨⟨f',gs,gt,gz,h1',h2⟩,h3,fun hm=> ?_⟩;obtain⟨ab,ao,f,gs,gt,gz,h5,h6,h7⟩:=h4 hm;obtain⟨f',h6'⟩:=k _ _ _ h6;exact⟨ab,ao,f',gs,gt,gz,h5,h6',h7⟩
theorem nC.of {H H':View}(h:nC H)(k:∀b f o,H b=some (f,o)->∃f',H' b=some (f',o)):nC H':=by
 obtain⟨f,gt,gz,h⟩:=h;obtain⟨f',h'⟩:=k _ _ _ h;exact⟨f',gt,gz,h'⟩
structure vS(X:Fk)(c:Ch)(H:View)(b1 b7 lb lo lc ac:Nat)(A:Option Addr):Prop where
 ne:X.Mu≠X.Wg
 TG:c.Good
 n:X.n=c.m+1
 ch:kG H c lb lo lc A
 h1:∃f,H b1=some (f,.cells ⟨(c.val lb lo lc ac A).cells.toList⟩ 133 (0,0))
 h7:∃f,H b7=some (f,.cells ⟨[.map (some X.C)]⟩ 192 (0,0))
 C7:nC H
 C0:H X.C=none
 GI:X.GI=GIc c
theorem vS.of {X:Fk}{c:Ch}{H H':View}{b1 b7 lb lo lc ac:Nat}{A:Option Addr}(h:vS X c H b1 b7 lb lo lc ac A)(k:∀b f o,H b=some (f,o)->∃f',H' b=some (f',o))(h0:H' X.C=none):vS X c H' b1 b7 lb lo lc ac A:=
 ⟨h.ne,h.TG,h.n,h.ch.of k,let ⟨_,g⟩:=h.h1;k _ _ _ g,let ⟨_,g⟩:=h.h7;k _ _ _ g,h.C7.of k,h0,h.GI⟩
abbrev W0:FB:=⟨67,.normal,none⟩
noncomputable def aCc:Code:=cR (cL (cR (cR (cR (cR (nG Tryz.f67))))))
noncomputable def aAn:Code:=cB (cB aCc)
noncomputable def X6:Code:=cR (cR (cR (cR (cR (nG Tryz.f67)))))
section
variable {X:Fk}{c:Ch}{b1 b7 lb lo lc ac:Nat}{A:Option Addr}{Fin:Goroutine->Prop}{cs:List Frame}
def N8(X:Fk)(c:Ch)(b1 b7 j:Nat):Rg:= [(1,.pointer (some ⟨b1,0,none⟩)),(2,.int .i64 0),(3,.int .i64 0),(4,.bool false),(5,.pointer (some ⟨X.Mu,0,none⟩)),(6,.pointer (some ⟨X.Wg,0,none⟩)),(7,.pointer (some ⟨b7,0,none⟩)),(13,.int .i64 ((c.m:Nat)+1)),(14,.int .i64 (j:Nat))]
theorem SM(wC:∀(R:Rg),cC (N8 X c b1 b7 (c.m+1)) R->∀k (H:View),Sc (Jm prog X Fin k .wd (c.m+1) H) 35 W0 cs R [] [.code X6]):∀(d j k:Nat) (H:View),j+d=c.m+1->vS X c H b1 b7 lb lo lc ac A->∀(R:Rg),cC (N8 X c b1 b7 j) R-> 
  Sc (Jm prog X Fin k (if j<X.n then .kd else .wd) j H) 35 W0 cs R [] [.code aAn,.inLoop aAn,.inBlock 0,.code X6]
 | 0,j,k,H,hj,bB,R,hR=> by
  have e:j=c.m+1:=by omega
  subst e;rw[if_neg (by rw[bB.n];omega)];refine Sc.drop hR ?_;unfold N8;refine .sq (.rg rfl rfl ?_);refine .i ?_ (z:=CJ oM);refine .dn ?_;refine Sc.seq Jm.cl (Sc.cond Jm.cl (t:=false) rfl (fun h=> nomatch h) (fun _=> ?_));refine .xt rfl ?_;exact wC _ ⟨rfl,rfl,rfl,rfl,rfl,rfl,rfl,rfl,rfl,trivial⟩ k H
 | d + 1,j,k,H,hj,bB,R,hR=> by
  rw[if_pos (by rw[bB.n];omega)];refine Sc.drop hR ?_;unfold N8;have hmn:=bB.TG.ok.P3;have C6:=bB.TG.ok.n4;refine .sq (.rg rfl rfl ?_);refine .i ?_ (z:=dO oM);refine .dn ?_;refine Sc.seq Jm.cl (Sc.cond Jm.cl (t:=true) rfl (fun _=> ?_) (fun h=> nomatch h));refine .sp (.sq (.bl (.sq ?_)));refine Sc.none bB.C0 ?_;refine Sc.G8 (eA.nil H) ?_;refine .r ?_;refine .m ?_;refine .e (.al (zz:=fun b8=> ?_));refine .e (.st 0 (zz:=?_));refine .done ?_;refine Tc.u4 (fun H1 hs=> Sc.hZ (fun hC1=> ?_));have aC9:vS X c H1 b1 b7 lb lo lc ac A:=bB.of (fun b f o h=> ⟨f,hs.base _ _ h⟩) hC1;have h8:=hs.get (i:=0) rfl;show Sc (Jm prog X Fin k .kd j H1) 35 W0 cs _ [] _;refine .sq (.rg rfl rfl ?_);refine So.MA rfl rfl rfl nofun rfl (.mk' rfl) rfl (jX bB.ne) ?_;rintro v J' ⟨rfl,k',rfl⟩;refine .dn (.rg rfl rfl ?_);refine So.opD Jm.cl rfl rfl rfl rfl (TB.makeFunc rfl rfl rfl) ?_;have wP:vS X c (ro H1) b1 b7 lb lo lc ac A:=aC9.of (fun b f o h=> ⟨false,BC h⟩) (LD hC1);refine Jm.go (f:=102) (fn:=#[]) (caps:=(aAm X b1 b8 b7).toArray) rfl nofun rfl rfl rfl rfl rfl rfl rfl (fun k1 _=> ?_) (fun k1 _=> ?_)
  ·refine .dn (.ib (.rg rfl rfl ?_));refine .i ?_ (z:=YD oM oM);refine .m ?_;refine .dn ?_;refine Sc.inLoop (by exact Jm.cl) ?_;exact SM wC d (j+1) k1 (ro H1) oM wP _ ⟨rfl,rfl,rfl,rfl,rfl,rfl,rfl,rfl,rfl,trivial⟩
  ·refine BZ (A:=A) (lb:=lb) (lo:=lo) (lc:=lc) (ac:=ac) ⟨bB.ne,bB.TG.ok,wP.ch,wP.h1,⟨false,BC h8⟩,wP.h7,fun i hi hf=> Lk.bL (bB.TG.bL i hf),oM,wP.C7,wP.C0,bB.GI⟩ (fun H' D k n b cs R ds hb h=> u7 hb bB.ne h) k1
end
theorem Ph.aBC {P:Program}{H:View}{g:Goroutine}{Po:View->Goroutine->Prop}(h:A5 P H g Po):Ph P H g Po:=
 ⟨H,fun _=> none,Po,fun _ _ h=> (nomatch h),(by funext b;unfold View.plus;cases H b <;> rfl),h,fun H' g' _ hp=> by
  have e:H'.plus (fun _=> none)=H':=by funext b;unfold View.plus;cases H' b <;> rfl
  rwa [e]⟩
def View.beside(X:Fk)(H:View):View:=((H.xA X.C).xA X.Mu).xA X.Wg
theorem zK {X:Fk}{H:View}:View.beside X H X.Mu=none/\View.beside X H X.Wg=none/\View.beside X H X.C=none:=by
 refine⟨?_,?_,?_⟩ <;> unfold View.beside View.xA <;> simp
theorem mF {X:Fk}{H:View}{b:Nat}(h1:b≠X.C)(h2:b≠X.Mu)(h3:b≠X.Wg):View.beside X H b=H b:=by
 unfold View.beside;rw[KA h3,KA h2,KA h1]
theorem Ph.begin {P:Program}{H:View}{g:Goroutine}{Po:View->Goroutine->Prop}(X:Fk)(Fin:Goroutine->Prop)(o:Obj)(hn:0<X.n/\X.n<=6)(ne:X.Mu≠X.Wg/\X.Mu≠X.C/\X.Wg≠X.C)
  (hC:H X.C=some (true,o)) (Z5:H X.Mu=some (true,X.fO ⟨0,0,0,0,0⟩)) (m6:H X.Wg=some (true,X.BO ⟨0,0,0,0,0⟩)) (E7:X.GI (fun _=> false) o)
  (hg:∀k,T (Mw P true X.ok) (MS P X Fin k .kd 0) (ro (View.beside X H)) g) (hPo:∀o' g',X.GI (fun i=> decide (i<X.n)) o'->Fin g'->Po ((View.beside X H).put X.C (true,o')) g'):Ph P H g Po:=by
 refine Ph.aBC ⟨X,Fin,View.beside X H,o,hn.1,hn.2,ne,zK,?_,E7,hg,hPo⟩
 funext b
 by_cases e1:b=X.Wg
 ·subst e1;rw[View.pA,m6]
 ·rw[View.jA _ _ e1];by_cases e2:b=X.Mu
  ·subst e2;rw[View.pA,Z5]
  ·rw[View.jA _ _ e2];by_cases e3:b=X.C
   ·subst e3;rw[View.pA,hC]
   ·rw[View.jA _ _ e3,mF e3 e2 e1]
theorem So.all {J:Obj->Goroutine->Prop}{p:Obj->Prop}{n:Nat}{b:FB}{cs:List Frame}{dl:List (Option Tmp)}{R:Rg}{ds:List Deferred}{l:List Oper}{kk:List Item}(h:∀o,p o->So (J o) n b cs dl R ds l kk):So (fun g=> ∀o,p o->J o g) n b cs dl R ds l kk:=
 fun arr ix ha hx tmps hr o ho=> h o ho arr ix ha hx tmps hr
def Ch.YN(c:Ch)(i:Nat):Bool:=(c.bad i).isSome
def Ch.first(c:Ch):Option Nat:=KB c.YN (c.m+1)
def Ch.sec(c:Ch):Nat:=c.first.getD 0
theorem Ch.Y9(c:Ch):c.sec<=c.m:=by
 unfold Ch.sec Ch.first;cases h:KB c.YN (c.m+1) with
 | none=> simp
 | some x=> have:=II h;simp;omega
theorem sV {c:Ch}{es:Array MapEntry}{cl:Nat}{n:Nat}(hn:n=c.m+1)(h:MB es cl (wF c fun i=> decide (i<n))){i:Nat}(hi:i<=c.m){r:Option (Nat×Value)}(hr:AF es.toList (.int .i64 (i:Nat)) r):
  (match c.bad i with|some z=> ∃j,r=some (j,.int .i64 z)|none=> r=none):=by
 have hf:=h.find hr;cases hb:c.bad i with
 | none=>
  cases r with
  | none=> rfl
  | some p=>
   obtain⟨j,v⟩:=p;obtain⟨i',z,h1,h2,h3,h4,h5⟩:=hf;simp only[Value.int.injEq,true_and,Int.natCast_inj] at h4;subst h4;rw[hb] at h3;cases h3
 | some z=>
  cases r with
  | none=> exact(hf (.int .i64 z) ⟨i,z,hi,by simp;omega,hb,rfl,rfl⟩).elim
  | some p=>
   obtain⟨j,v⟩:=p;obtain⟨i',z',h1,h2,h3,h4,h5⟩:=hf;simp only[Value.int.injEq,true_and,Int.natCast_inj] at h4;subst h4;rw[hb] at h3;cases h3
   exact⟨j,by rw[h5]⟩
section
theorem nX(M:Md prog)(H:View)(ch:Ch)(b7 bC:Nat)(es:Array MapEntry)(cl n:Nat)(f7 fC:Bool)(hn:n=ch.m+1)(h7:H b7=some (f7,.cells ⟨[.map (some bC)]⟩ 192 (0,0)))(hC:H bC=some (fC,.map es cl))(hm:MB es cl (wF ch fun i=> decide (i<n))):
  gN M H (.func (.func 108) #[] #[.pointer (some ⟨b7,0,none⟩)]) (ch.m+1) ch.YN:=fun i hi H' hle=> by
 refine TC.of (first:= []) (captured:= [_]) aAE rfl ?_;have h7':=hle _ _ h7;have hC':=hle _ _ hC;have OU:=fun r (hr:AF es.toList (.int .i64 (i:Nat)) r)=> sV hn hm oM hr;refine .en func108 ntmps108 fun St c cs hK=> ?_;cases hb:ch.bad i with
 | none=>
  refine .sr ?_;refine .g ?_;refine .done (.sr ?_);refine .x .l0 ?_;refine .m ?_;refine .x (mA.lookup (E:=en) (v:=.tuple #[.int .i64 0,.bool false]) 1 rfl rfl rfl (fun H hs=> ⟨_,hs.base _ _ hC'⟩) rfl rfl rfl dE (BJ _) (CL hm) (fun r hr=> by have:=OU r hr;rw[hb] at this;subst this;rfl)) ?_;refine .m ?_;refine .x .et ?_;refine .x .et ?_;refine .g ?_;refine .g ?_;refine .done (.sr ?_);refine .m ?_;refine .g ?_;refine .done ?_;refine .rt hK func108 results108 [_] ?_;exact fun H2 hs=> ⟨hs.base,by unfold Ch.YN;rw[hb];rfl⟩
 | some z=>
  refine .sr ?_;refine .g ?_;refine .done (.sr ?_);refine .x .l0 ?_;refine .m ?_;refine .x (mA.lookup (E:=en) (v:=.tuple #[.int .i64 z,.bool true]) 1 rfl rfl rfl (fun H hs=> ⟨_,hs.base _ _ hC'⟩) rfl rfl rfl dE (BJ _) (CL hm) (fun r hr=> by have:=OU r hr;rw[hb] at this;obtain⟨j,rfl⟩:=this;rfl)) ?_;refine .m ?_;refine .x .et ?_;refine .x .et ?_;refine .g ?_;refine .g ?_;refine .done (.sr ?_);refine .m ?_;refine .g ?_;refine .done ?_;refine .rt hK func108 results108 [_] ?_;exact fun H2 hs=> ⟨hs.base,by unfold Ch.YN;rw[hb];rfl⟩
theorem gH(H:View)(ch:Ch)(lb lo lc ac:Nat)(A:Option Addr)(hA:kG H ch lb lo lc A)(hg:ch.Good)(hG:nC H):
  dA (Mp prog) 67 #[ch.val lb lo lc ac A] H (fun v H'=> H.le H'/\v=.tuple ⟨[.int .i64 (ch.sec:Nat),.int .i64 ((ch.bad ch.sec).getD 0),.bool ch.first.isSome]⟩):=by
 refine .en func67 ntmps67 fun St c cs hK=> ?_;have hmn:=hg.ok.P3;have C6:=hg.ok.n4;refine .sr ?_;refine .e (.bx (zz:=fun b1=> ?_));refine .g ?_;refine .g ?_;refine .g ?_;refine .done (.sr ?_);refine .e (.al (zz:=fun b5=> ?_));refine .done (.sr ?_);refine .e (.al (zz:=fun b6=> ?_));refine .done (.sr ?_);refine .e (Or.makeMap rfl rfl dE (fun bC=> ?_));refine .e (.al (zz:=fun b7=> ?_));refine .e (.st 0 (zz:=?_));refine .done (.seq (.sr ?_));refine .x .fa ?_;refine .x (.ld 4) ?_;refine .x .ln ?_;refine .i ?_ (z:=YD oM oM);refine .m ?_;refine .done ?_;refine Tc.u4 (fun Hx hs tmps hr=> ?_);obtain⟨X,hX⟩:∃X:Fk,X=⟨ch.m+1,b5,b6,bC,184,191,GIc ch⟩:=⟨_,rfl⟩
 have x1:=hs.get (i:=0) rfl;have x2:=hs.get (i:=1) rfl;have x3:=hs.get (i:=2) rfl;have x4:=hs.get (i:=3) rfl;have x5:=hs.get (i:=4) rfl;have SB: [b7,bC,b6,b5,b1].Nodup:=hs.nodup;simp only[List.nodup_cons,List.mem_cons,List.not_mem_nil,or_false,not_or,not_false_eq_true,List.nodup_nil,and_true] at SB;obtain⟨⟨n1,n2,n3,n4⟩,⟨n5,n6,n7⟩,⟨n8,n9⟩,n10⟩:=SB;have o1:=hs.out _ (List.mem_cons_self);have XE:∀y,y=bC\/y=b5\/y=b6->H y=none:=by
  rintro y (rfl|rfl|rfl)
  ·exact hs.out _ (List.mem_cons_of_mem _ List.mem_cons_self)
  ·exact hs.out _ (List.mem_cons_of_mem _ (List.mem_cons_of_mem _ (List.mem_cons_of_mem _ List.mem_cons_self)))
  ·exact hs.out _ (List.mem_cons_of_mem _ (List.mem_cons_of_mem _ List.mem_cons_self))
 have hle:H.le (View.beside X Hx):=fun b y hb=> by
  have e:∀z,z=bC\/z=b5\/z=b6->b≠z:=fun z hz e=> by subst e;rw[XE b hz] at hb;cases hb
  rw[mF (by subst hX;exact e _ (.inl rfl)) (by subst hX;exact e _ (.inr (.inl rfl))) (by subst hX;exact e _ (.inr (.inr rfl)))];exact hs.base _ _ hb
 have y1:View.beside X Hx b1=some (true,.cells ⟨(ch.val lb lo lc ac A).cells.toList⟩ 133 (0,0)):=by
  subst hX;rw[mF (by exact Ne.symm n7) (by exact Ne.symm n10) (by exact Ne.symm n9)];exact x5
 have y7:View.beside X Hx b7=some (true,.cells ⟨[.map (some bC)]⟩ 192 (0,0)):=by
  subst hX;rw[mF n1 n3 n2];exact x1
 obtain⟨Fin,hF⟩:∃Fin:Goroutine->Prop,Fin=fun g=> ∀o',X.GI (fun i=> decide (i<X.n)) o'->T (Mp prog) St ((View.beside X Hx).put X.C (true,o')) g:=⟨_,rfl⟩
 have hcF:Cl prog true xT Fin:=⟨fun g g' hs h hf=> by
  subst hF;exact fun o' ho=> .step ⟨hs,fun w hw LB=> ⟨g',w,#[],_,h w (fun _ _ e=> by cases e),.refl hw,hf o' ho⟩⟩⟩
 have aB:X.Mu≠X.Wg:=by subst hX;exact Ne.symm n8
 refine T.phase (Po:=fun H' g'=> T (Mp prog) St H' g') (Ph.begin X Fin (.map #[] 0) (by subst hX;exact⟨by show 0<ch.m+1;omega,by show ch.m+1<=6;omega⟩) ⟨aB,by subst hX;exact Ne.symm n6,by subst hX;exact Ne.symm n5⟩ (by subst hX;exact x2) (by subst hX;exact x4) (by subst hX;exact x3) (by subst hX;exact⟨_,_,rfl,MB.nil.congr fun a b=> by unfold wF;simp⟩) (fun k=> ?_) (fun o' g' ho hf=> by subst hF;exact hf o' ho)) (fun H' g' hp=> hp);have bB:vS X ch (ro (View.beside X Hx)) b1 b7 lb lo lc ac A:=
  ⟨aB,hg,by subst hX;rfl,hA.of (fun b f o h=> ⟨false,BC (hle _ _ h)⟩),⟨false,BC y1⟩,by subst hX;exact⟨false,BC y7⟩,hG.of (fun b f o h=> ⟨false,BC (hle _ _ h)⟩),LD zK.2.2,by subst hX;rfl⟩
 have wC:∀(R:Rg),cC (N8 X ch b1 b7 (ch.m+1)) R->∀k (H:View),Sc (Jm prog X Fin k .wd (ch.m+1) H) 35 W0 (c::cs) R [] [.code X6]:=by
  intro R hR k Hk;refine Sc.drop hR ?_;unfold N8;refine .sq (.rg rfl rfl ?_);refine So.MA rfl rfl rfl nofun rfl (.mk' rfl) rfl (aAl hcF aB) ?_;rintro v J' ⟨rfl,rfl⟩;subst hF;refine So.all (fun o' VU=> ?_);have E7:X.GI=GIc ch:=by subst hX;rfl
  rw[E7] at VU;obtain⟨es,cl,rfl,hm⟩:=VU;have hX2:X.n=ch.m+1:=by subst hX;rfl
  have z1:(View.beside X Hx).put X.C (true,.map es cl) b1=some (true,.cells ⟨(ch.val lb lo lc ac A).cells.toList⟩ 133 (0,0)):=by
   rw[View.jA _ _ (by subst hX;exact Ne.symm n7)];exact y1
  have z7:(View.beside X Hx).put X.C (true,.map es cl) b7=some (true,.cells ⟨[.map (some X.C)]⟩ 192 (0,0)):=by
   rw[View.jA _ _ (by subst hX;exact n1)];subst hX;exact y7
  have zC:(View.beside X Hx).put X.C (true,.map es cl) X.C=some (true,.map es cl):=View.pA ..;have zle:H.le ((View.beside X Hx).put X.C (true,.map es cl)):=fun b y hb=> by
   rw[View.jA _ _ (by rintro rfl;subst hX;rw[XE bC (.inl rfl)] at hb;cases hb)];exact hle _ _ hb
  generalize (View.beside X Hx).put X.C (true,.map es cl)=H2 at z1 z7 zC zle;refine So.aDh (eA.nil H2) ?_;refine .done (.sr ?_);refine .x .fa ?_;refine .x .l0 ?_;refine .x .ln ?_;refine .i ?_ (z:=YD oM oM);refine .x .mf ?_;refine .c rfl rfl rfl rfl (fun H hs=> .f aCr rfl (nL _ H (ch.m+1) _ ch.YN oM (nX _ H ch b7 X.C es cl X.n true true hX2 (hs.base _ _ z7) (hs.base _ _ zC) hm))) ?_;refine .m ?_;refine .x .et ?_;refine .x .et ?_;refine .g ?_;refine .g ?_;refine .done (.seq ?_);have aC6:=ch.Y9;have OU:=fun r (hr:AF es.toList (.int .i64 (ch.sec:Nat)) r)=> sV hX2 hm aC6 hr;refine Tc.dr [] [] mixed rfl ?_;refine .q 0 rfl .mv ?_;refine .q 1 rfl .l0 ?_;refine .q 2 rfl .mv ?_;refine .q 3 rfl (mA.lookup (E:=en) (v:=.int .i64 ((ch.bad ch.sec).getD 0)) 1 rfl rfl rfl (fun H hs=> ⟨_,hs.base _ _ zC⟩) rfl rfl rfl dE (BJ _) (CL hm) (fun r hr=> by have:=OU r hr;cases hb:ch.bad ch.sec with|none=> rw[hb] at this;subst this;rfl|some z=> rw[hb] at this;obtain⟨j,rfl⟩:=this;rfl)) ?_;refine .q 4 rfl .mv ?_;refine .q 5 rfl .sg ?_;refine .q 6 rfl .sg ?_;refine .q 7 rfl .sg ?_;refine Ta.done kR ?_;refine .rt hK func67 results67 [_,_,_] ?_;exact fun H' hs=> ⟨View.le_trans zle hs.base,rfl⟩
 refine Sc.block Jm.cl (Sc.loop Jm.cl ?_) tmps hr;have h0:0<X.n:=by subst hX;show 0<ch.m+1;omega
 have hgo:=SM wC (ch.m+1) 0 k (ro (View.beside X Hx)) oM bB;simp only[if_pos h0] at hgo;subst hX;exact hgo _ (by unfold N8;refine⟨rfl,?_⟩;refine⟨rfl,?_⟩;refine⟨rfl,?_⟩;refine⟨rfl,?_⟩;refine⟨rfl,?_⟩;refine⟨rfl,?_⟩;refine⟨rfl,?_⟩;refine⟨rfl,?_⟩;refine⟨rfl,?_⟩;exact trivial)
end
end Go.Proofs.YtgkmnalhddmclaaGreatDoor
namespace Go.Proofs.YtgkmnalhddmclaaGreatDoor
open Go.RL Go.Proofs.Tryz
set_option maxRecDepth 10000
set_option maxHeartbeats 4000000
def UC(H:View)(A:Option Addr)(l:List Int):Prop:=
 l= []\/∃ab ao f gs gt gz,A=some ⟨ab,ao,none⟩/\H ab=some (f,.cells ⟨gs⟩ gt gz)/\∀j:Nat,j<l.length->YB false 1 gs (ao+(j:Int).toNat*1)=some (.int .i64 (l[j]?.getD 0))
theorem UC.le {H H':View}{A:Option Addr}{l:List Int}(h:UC H A l)(k:H.le H'):UC H' A l:=by
 rcases h with h|⟨ab,ao,f,gs,gt,gz,h1,h2,h3⟩
 ·exact .inl h
 ·exact .inr ⟨ab,ao,f,gs,gt,gz,h1,k _ _ h2,h3⟩
theorem UC.of {H:View}{g:Gl 3 1}{l:List Int}(hl:g.l=kA l)(h:∀y∈g.bl,H y.1=some y.2):g.n=l.length/\UC H (g.blk.map fun b=> ⟨b,0,none⟩) l:=by
 have hn:g.n=l.length:=by
  have:=g.hl;rw[hl,rA] at this;omega
 refine⟨hn,?_⟩;obtain⟨_|b,n,cap,gl,gj,h1,h2,h3,h4⟩:=g
 ·have:=h4 rfl;simp only at hn h2;refine .inl (List.eq_nil_of_length_eq_zero oM)
 ·refine .inr ⟨b,0,true,gl++gj,3,(0,0),rfl,h (b,true,.cells ⟨gl++gj⟩ 3 (0,0)) (by simp[Gl.bl]),fun j hj=> ?_⟩;simp only at hl;subst hl;show(kA l++gj)[0+(j:Int).toNat*1]? =_;rw[Nat.zero_add,Nat.mul_one,Int.toNat_natCast,List.getElem?_append_left (by rw[rA];exact hj)];unfold kA;rw[List.getElem?_map,List.getElem?_eq_getElem hj];rfl
def ZN(p:Nat->Bool)(k:Nat):List Int:=((List.range k).filter p).map fun i:Nat=> (i:Int)
theorem oY(p:Nat->Bool)(k:Nat):WA p k=kA (ZN p k):=by
 unfold WA ZN kA;rw[List.map_map];rfl
section
variable(M:Md prog)(H:View)
theorem EN(a b:Int):dA M 15 #[.int .i64 a,.int .i64 b] H (fun v H'=> H.le H'/\v=WB a b):=by
 refine .en func15 ntmps15 fun St c cs hK=> ?_;refine U2 ?_;refine .al fun b4=> ?_;refine U8 ?_;refine .rt hK func15 results15 [_] ?_;exact okB
theorem aAr(x a b:Int):dA M 85 #[.int .i64 x,.int .i64 a,.int .i64 b] H (fun v H'=> H.le H'/\v=.bool (decide (a<=x/\x<=b))):=by
 refine .en func85 ntmps85 fun St c cs hK=> ?_;by_cases c1:a<=x
 all_goals by_cases c2:x<=b
 all_goals (
  refine U8 ?_;refine .i ?_ (z:=by first|exact OQ oM|exact NQ oM);refine U ?_;first|(refine .sk ?_)|(refine .m ?_)
  first|(refine .sk ?_)|(refine .m ?_)
  first|(refine .sk ?_)|(refine .x (.it (zz:=(by first|exact oH oM|exact NG oM))) ?_)
  refine U3 ?_;refine .rt hK func85 results85 [_] ?_;exact fun H' hs=> ⟨hs.base,by simp[c1,c2];rfl⟩)
theorem zD(a b low high:Int):dA M 84 #[WB a b,.int .i64 low,.int .i64 high] H (fun v H'=> H.le H'/\v=.bool (decide (a<=b/\low<=a/\b<=high))):=by
 refine .en func84 ntmps84 fun St c cs hK=> ?_;by_cases c1:a<=b
 all_goals by_cases c2:low<=a
 all_goals by_cases c3:b<=high
 all_goals (
  refine U2 ?_;refine .bo fun b3=> ?_;refine U8 ?_;refine .i ?_ (z:=by first|exact oH oM|exact NG oM);refine U ?_;first|(refine .sk ?_)|(refine .x .fa ?_)
  first|(refine .sk ?_)|((refine .x (.ld 0) ?_))
  first|(refine .sk ?_)|(refine .m ?_)
  first|(refine .sk ?_)|(refine .x (.it (zz:=(by first|exact OQ oM|exact NQ oM))) ?_)
  refine U2 ?_;first|(refine .sk ?_)|(refine .x .fa ?_)
  first|(refine .sk ?_)|((refine .x (.ld 0) ?_))
  first|(refine .sk ?_)|(refine .m ?_)
  first|(refine .sk ?_)|(refine .x (.it (zz:=(by first|exact oH oM|exact NG oM))) ?_)
  refine U3 ?_;refine .rt hK func84 results84 [_] ?_;exact fun H' hs=> ⟨hs.base,by simp[c1,c2,c3];rfl⟩)
theorem OT(a b:Int):dA M 45 #[WB a b] H (fun v H'=> H.le H'/\v=.bool (oB a b)):=by
 refine .en func45 ntmps45 fun St c cs hK=> ?_;by_cases c1:a<=b/\1<=a/\b<=40
 ·by_cases c2:b-a<3
  ·have e:oB a b=true:=decide_eq_true oM;refine U2 ?_;refine .bo fun b1=> ?_;refine U5 ?_;refine .cl (fun H hs=> dA.is (.bool true) (by rewrite [decide_eq_true c1];rfl) (zD M H a b 1 40)) ?_;refine fH ?_;refine .rt hK func45 results45 [_] ?_;exact fun H' hs=> ⟨hs.base,by rw[e];rfl⟩
  ·have e:oB a b=false:=decide_eq_false oM;refine U2 ?_;refine .bo fun b1=> ?_;refine U5 ?_;refine .cl (fun H hs=> dA.is (.bool true) (by rewrite [decide_eq_true c1];rfl) (zD M H a b 1 40)) ?_;refine fH ?_;refine .rt hK func45 results45 [_] ?_;exact fun H' hs=> ⟨hs.base,by rw[e];rfl⟩
 ·have e:oB a b=false:=decide_eq_false oM;refine U2 ?_;refine .bo fun b1=> ?_;refine U5 ?_;refine .cl (fun H hs=> dA.is (.bool false) (by rewrite [decide_eq_false c1];rfl) (zD M H a b 1 40)) ?_;refine fH ?_;refine .rt hK func45 results45 [_] ?_;exact fun H' hs=> ⟨hs.base,by rw[e];rfl⟩
theorem rO(a b x y:Int):dA M 86 #[.agg ⟨[.int .i64 a,.int .i64 b,.int .i64 x,.int .i64 y]⟩] H (fun v H'=> H.le H'/\v=.int .i64 (if oD a b&&JD x y then 0 else 1)):=by
 refine .en func86 ntmps86 fun St c cs hK=> ?_;by_cases c1:a<=b/\ -9<=a/\b<=9
 ·by_cases c2:b-a≥3
  ·have e:(oD a b&&JD x y)=false:=by unfold oD;rw[decide_eq_false oM];rfl
   refine U2 ?_;refine .bo fun b1=> ?_;refine U7 ?_;refine .cl (fun H hs=> dA.is (.bool true) (by rewrite [decide_eq_true c1];rfl) (zD M H a b (-9) 9)) ?_;refine U23 ?_;refine .rt hK func86 results86 [_] ?_;exact fun H' hs=> ⟨hs.base,by rw[e];rfl⟩
  ·by_cases c3:x<=y/\ -12<=x/\y<=12
   ·have e:(oD a b&&JD x y)=true:=by unfold oD JD;rw[decide_eq_true oM,decide_eq_true oM];rfl
    refine U2 ?_;refine .bo fun b1=> ?_;refine U7 ?_;refine .cl (fun H hs=> dA.is (.bool true) (by rewrite [decide_eq_true c1];rfl) (zD M H a b (-9) 9)) ?_;refine yI ?_;refine .cl (fun H hs=> dA.is (.bool true) (by rewrite [decide_eq_true c3];rfl) (zD M H x y (-12) 12)) ?_;refine U9 ?_;refine .rt hK func86 results86 [_] ?_;exact fun H' hs=> ⟨hs.base,by rw[e];rfl⟩
   ·have e:(oD a b&&JD x y)=false:=by unfold JD;rw[decide_eq_false (p:= -12<=x/\x<=y/\y<=12/\y-x<25) oM];simp
    refine U2 ?_;refine .bo fun b1=> ?_;refine U7 ?_;refine .cl (fun H hs=> dA.is (.bool true) (by rewrite [decide_eq_true c1];rfl) (zD M H a b (-9) 9)) ?_;refine yI ?_;refine .cl (fun H hs=> dA.is (.bool false) (by rewrite [decide_eq_false c3];rfl) (zD M H x y (-12) 12)) ?_;refine U8 ?_;refine .rt hK func86 results86 [_] ?_;exact fun H' hs=> ⟨hs.base,by rw[e];rfl⟩
 ·have e:(oD a b&&JD x y)=false:=by unfold oD;rw[decide_eq_false oM];rfl
  refine U2 ?_;refine .bo fun b1=> ?_;refine U7 ?_;refine .cl (fun H hs=> dA.is (.bool false) (by rewrite [decide_eq_false c1];rfl) (zD M H a b (-9) 9)) ?_;refine U23 ?_;refine .rt hK func86 results86 [_] ?_;exact fun H' hs=> ⟨hs.base,by rw[e];rfl⟩
end
set_option maxHeartbeats 8000000
def bl(x:Nat):Nat:=if x=0 then 0 else Nat.log2 x+1
theorem aAA:∀x:Nat,x<64->(UInt8.ofNat (bl x)).toNat=bl x/\bl x<=6/\x<2 ^ bl x/\2 ^ bl x<=2*x+1:=by decide +kernel
theorem m5:∀x:Nat,x<64->IntKind.u8.wrap (x:Int)=(x:Int):=by decide +kernel
section
variable(M:Md prog)(H:View)
theorem G0(x:Nat)(hx:x<64):dA M 134 #[.int .u64 (x:Nat)] H (fun v H'=> H.le H'/\v=.int .i64 (bl x:Nat)):=by
 obtain⟨b1,b2,_,_⟩:=aAA x hx;have hw:=m5 x hx;have hw2:IntKind.i64.wrap (((UInt8.ofNat (bl x)).toNat:Nat):Int)=((bl x:Nat):Int):=by rw[b1];exact wrap64 oM oM
 have aA2:iA .add .i64 0 ((bl x:Nat):Int)=some (.int .i64 ((bl x:Nat):Int)):=by rw[YD oM oM,Int.zero_add]
 refine .en func134 ntmps134 fun St c cs hK=> ?_;refine U33 ?_;refine .x (mA.AJ (c:=UInt8.ofNat (bl x)) rfl rfl rfl aAg oM (by
  rw[Int.toNat_natCast];exact(fun(s:ByteArray) (h:∀y:Nat,y<64->s[y]? =some (UInt8.ofNat (bl y)))=> h x hx) _ (by decide +kernel))) ?_
 refine .x (mA.P5 (E:=en) rfl rfl rfl rfl rfl rfl hw2) ?_;refine .i ?_ (z:=aA2);refine U2 ?_;refine .rt hK func134 results134 [_] ?_;exact okB
end
end Go.Proofs.YtgkmnalhddmclaaGreatDoor
namespace Go.Proofs.YtgkmnalhddmclaaGreatDoor
open Go.RL Go.Proofs.Tryz
set_option maxRecDepth 10000
def cD(s p:List UInt8):Bool:=decide (p.length<=s.length)&&(s.take p.length==p)
section
variable(M:Md prog)(H:View)
theorem HO(s p:List UInt8):dA M 221 #[nA s,nA p] H (fun v H'=> H.le H'/\v=.bool (cD s p)):=by
 refine .en func221 ntmps221 fun St c cs hK=> ?_;by_cases c1:p.length<=s.length
 ·have e:cD s p=(s.take p.length==p):=by unfold cD;simp[c1]
  rw[e] at hK;refine AV ?_;refine .x (mA.yE (E:=en) rfl rfl rfl rfl rfl rfl oM oM oM) ?_;refine U5 ?_;refine .rt hK func221 results221 [_] ?_;exact fun H' hs=> ⟨hs.base,by simp[OC]⟩
 ·have e:cD s p=false:=by unfold cD;simp[c1]
  rw[e] at hK;refine B5 ?_;refine .rt hK func221 results221 [_] ?_;exact okB
end
set_option maxHeartbeats 4000000
def q7(n:Nat):UInt8:=UInt8.ofNat (48+n%10)
end Go.Proofs.YtgkmnalhddmclaaGreatDoor
namespace Go.RL
open Go.Conc
section
variable {P:Program}{E:Env P}{M:Md P}{St:View->Goroutine->Prop}{n:Nat}{b:FB}{H₀:View}{cs:List Frame}{R:Rg}{L L₁:Bl}{ds:List Deferred}{k:List Item}
end
section
variable {P:Program}{M:Md P}{St:View->Goroutine->Prop}{n:Nat}{b:FB}{H₀:View}{cs:List Frame}{R:Rg}{L:Bl}{ds:List Deferred}{k:List Item}{ops:Array Oper}
end
section
variable {P:Program}{M:Md P}{St:View->Goroutine->Prop}{n:Nat}{b:FB}{H₀ H₁:View}{cs:List Frame}{R:Rg}{L:Bl}{ds:List Deferred}{k:List Item}{md:Region.Mode}{ops:Array Oper}
end
end Go.RL
namespace Go.Proofs.YtgkmnalhddmclaaGreatDoor
open Go.RL Go.Proofs.Tryz
set_option maxRecDepth 10000
set_option maxHeartbeats 4000000
def OH(c:UInt8):Bool:=decide (48<=c.toNat/\c.toNat<58)
def KS:List UInt8:= [48,49,50,51,52,53,54,55,56,57]
def ED(i:Nat):List Value:=(List.range 256).map fun j=> .bool (decide (48<=j/\j<48+i))
def dF(s:List UInt8):List UInt8:=(s.reverse.dropWhile OH).reverse
def AH(s:List UInt8):List UInt8:=(dF s).dropWhile OH
theorem HQ:ED 0=List.replicate 256 (.bool false):=by kernel_rfl
theorem LV:∀i,i<10->zE (ED i) (0+((48+i:Nat):Int).toNat*1) [.bool true]=ED (i+1):=by
 intro i hi;rcases(by omega:i=0\/i=1\/i=2\/i=3\/i=4\/i=5\/i=6\/i=7\/i=8\/i=9) with rfl|rfl|rfl|rfl|rfl|rfl|rfl|rfl|rfl|rfl <;> kernel_rfl
theorem KV(c:UInt8):YB false 1 (ED 10) (0+((c.toNat:Nat):Int).toNat*1)=some (.bool (OH c)):=by
 show(ED 10)[_]? =_;have:c.toNat<256:=c.toNat_lt;unfold ED OH;rw[List.getElem?_map,Int.toNat_natCast,Nat.mul_one,Nat.zero_add,List.getElem?_range this];rfl
theorem I1:∀i,i<10->KS[i]? =some (UInt8.ofNat (48+i)):=by decide
theorem eU(s:List UInt8)(c:UInt8)(h:OH c=true):dF (s++[c])=dF s:=by
 unfold dF;rw[List.reverse_append];simp[h]
theorem fU(s:List UInt8)(c:UInt8)(h:OH c=false):dF (s++[c])=s++[c]:=by
 unfold dF;rw[List.reverse_append];simp[h]
theorem qK(s:List UInt8):(AH s== [])=s.all OH:=by
 have h:AH s= []<->∀c∈s,OH c=true:=by
  unfold AH dF;constructor
  ·intro h c hc;have h1:∀l:List UInt8,l.dropWhile OH= []->∀c∈l,OH c=true:=by
    intro l;induction l with
    | nil=> simp
    | cons x t ih=>
     rw[List.dropWhile_cons];split
     ·rename_i hx
      intro h c hc;rcases List.mem_cons.1 hc with rfl|hc
      ·exact hx
      ·exact ih h c hc
     ·intro h;cases h
   have h2:=h1 _ h;have h3:∀l:List UInt8,(∀c∈l.dropWhile OH,OH c=true)->∀c∈l,OH c=true:=by
    intro l;induction l with
    | nil=> simp
    | cons x t ih=>
     rw[List.dropWhile_cons];split
     ·rename_i hx
      intro h c hc;rcases List.mem_cons.1 hc with rfl|hc
      ·exact hx
      ·exact ih h c hc
     ·intro h c hc;exact h c hc
   exact h3 s.reverse (fun c hc=> h2 c (List.mem_reverse.2 hc)) c (List.mem_reverse.2 hc)
  ·intro h;have h1:∀l:List UInt8,(∀c∈l,OH c=true)->l.dropWhile OH= []:=by
    intro l;induction l with
    | nil=> simp
    | cons x t ih=>
     intro h;rw[List.dropWhile_cons,if_pos (h x (List.mem_cons_self ..))];exact ih fun c hc=> h c (List.mem_cons_of_mem _ hc)
   rw[h1 s.reverse (fun c hc=> h c (List.mem_reverse.1 hc))];rfl
 rw[Bool.eq_iff_iff,beq_iff_eq,h,List.all_eq_true]
section
variable(M:Md prog)(H:View)
theorem qG(b:Nat)(f:Bool)(gt:TypeId)(gz:Nat×Nat)(hb:H b=some (f,.cells ⟨ED 10⟩ gt gz))(c0:UInt8):
  dA M 222 #[.pointer (some ⟨b,0,none⟩),.int .u8 (c0.toNat:Nat)] H (fun v H'=> H.le H'/\v=.bool (OH c0)):=by
 have f1:=KV c0;have f2:=c0.toNat_lt;refine .en func222 ntmps222 fun St c cs hK=> ?_;refine yK ?_;refine .rt hK func222 results222 [_] ?_;exact okB
end
section
variable(M:Md prog)(H:View)
theorem fW:dA M 197 #[nA KS] H (fun v H'=> H.le H'/\v=.tuple ⟨[.agg ⟨ED 10⟩,.bool true]⟩):=by
 refine .en func197 ntmps197 fun St c cs hK=> ?_;refine U2 ?_;refine .al fun b2=> ?_;refine U8 ?_;refine Tc.TE (Tc.IA (σ:= { i:Nat//i<=10 }) (fun i=> ([(0,nA KS),(2,.pointer (some ⟨b2,0,none⟩)),(4,.int .i64 (i.1:Nat))],[(b2,true,.cells ⟨ED i.1⟩ 270 (0,0))])) (fun i=> 10-i.1) ?_ ⟨0,oM⟩) ⟨rfl,rfl,rfl,trivial⟩ (by rw[HQ];exact List.Sublist.refl _);rintro⟨i,hi⟩ ih;show Tc M St _ _ _ _ [(0,nA KS),(2,.pointer (some ⟨b2,0,none⟩)),(4,.int .i64 (i:Nat))] [(b2,true,.cells ⟨ED i⟩ 270 (0,0))] _ _;have NU:(KS.length:Nat)=10:=rfl;by_cases c1:i=10
 ·subst c1;refine uQ ?_;refine .rt hK func197 results197 [_,_] ?_;exact okB
 ·have c2:i<10:=by omega
  have f1:KS[((i:Nat):Int).toNat]? =some (UInt8.ofNat (48+i)):=by rw[Int.toNat_natCast];exact I1 i c2
  have f2:(UInt8.ofNat (48+i)).toNat=48+i:=by rw[UInt8.toNat_ofNat'];omega
  have f3:=LV i c2;have f4:Nat.ble (0+((48+i:Nat):Int).toNat*1+1) (ED i).length=true:=by
   refine Nat.ble_eq_true_of_le ?_;rw[Int.toNat_natCast];unfold ED;rw[List.length_map,List.length_range];omega
  refine wS ?_;rw[f2];refine wS ?_;exact Tc.db (ih ⟨i+1,oM⟩ (by simp only;omega))
theorem aS(b:Nat)(f:Bool)(gt:TypeId)(gz:Nat×Nat)(hb:H b=some (f,.cells ⟨ED 10⟩ gt gz))(s:List UInt8)(hl:s.length<=1000000):
  dA M 199 #[nA s,.pointer (some ⟨b,0,none⟩)] H (fun v H'=> H.le H'/\v=nA (dF s)):=by
 refine .en func199 ntmps199 fun St c cs hK=> ?_;refine U6 ?_;refine Tc.db (Tc.IA (σ:= { r:List UInt8//dF r=dF s/\r.length<=s.length }) (fun r=> ([(0,nA r.1),(1,.pointer (some ⟨b,0,none⟩))],[])) (fun r=> r.1.length) ?_ ⟨s,rfl,Nat.le_refl _⟩);rintro⟨r,hr,hlr⟩ ih;show Tc M St _ _ _ _ [(0,nA r),(1,.pointer (some ⟨b,0,none⟩))] [] _ _;have hsn:r= []\/∃q x,r=q++[x]:=by
  rcases List.eq_nil_or_concat r with h|⟨q,x,h⟩
  ·exact .inl h
  ·exact .inr ⟨q,x,by rw[h,List.concat_eq_append]⟩
 rcases hsn with rfl|⟨q,x,rfl⟩
 ·have e:dF s= []:=by rw[<-hr];rfl
  rw[e] at hK;refine yI ?_;refine .rt hK func199 results199 [_] ?_;exact okB
 ·have l1:(q++[x]).length=q.length+1:=by simp
  have f1:(q++[x])[(((q++[x]).length:Nat)-1:Int).toNat]? =some x:=by
   rw[l1,show(((q.length+1:Nat):Int)-1).toNat=q.length by omega];simp
  cases hx:OH x with
  | false=>
   have e:dF s=q++[x]:=by rw[<-hr];exact fU q x hx
   have hc:=fun(H':View) (h':H.le H')=> qG M H' b f gt gz (h' _ _ hb) x;rw[hx] at hc;rw[e] at hK;refine wS ?_;refine .cl (fun H hs=> hc H hs.base) ?_;refine U9 ?_;refine .rt hK func199 results199 [_] ?_;exact okB
  | true=>
   have hc:=fun(H':View) (h':H.le H')=> qG M H' b f gt gz (h' _ _ hb) x;rw[hx] at hc;have e:((q++[x]).drop ((0:Nat):Int).toNat).take ((((q++[x]).length:Nat)-1:Int).toNat-((0:Nat):Int).toNat)=q:=by
    rw[l1,show(((q.length+1:Nat):Int)-1).toNat=q.length by omega];simp
   refine wS ?_;refine .cl (fun H hs=> hc H hs.base) ?_;refine U9 ?_;refine .x (mA.yE (E:=en) rfl rfl rfl rfl rfl rfl oM oM oM) ?_;refine U2 ?_;rw[e];refine U ?_;exact Tc.db (ih ⟨q,by rw[<-hr,eU q x hx],oM⟩ (by simp only;omega))
theorem dU(b:Nat)(f:Bool)(gt:TypeId)(gz:Nat×Nat)(hb:H b=some (f,.cells ⟨ED 10⟩ gt gz))(s:List UInt8)(hl:s.length<=1000000):
  dA M 198 #[nA s,.pointer (some ⟨b,0,none⟩)] H (fun v H'=> H.le H'/\v=nA (s.dropWhile OH)):=by
 refine .en func198 ntmps198 fun St c cs hK=> ?_;refine U6 ?_;refine Tc.db (Tc.IA (σ:= { r:List UInt8//r.dropWhile OH=s.dropWhile OH/\r.length<=s.length }) (fun r=> ([(0,nA r.1),(1,.pointer (some ⟨b,0,none⟩))],[])) (fun r=> r.1.length) ?_ ⟨s,rfl,Nat.le_refl _⟩);rintro⟨r,hr,hlr⟩ ih;show Tc M St _ _ _ _ [(0,nA r),(1,.pointer (some ⟨b,0,none⟩))] [] _ _;rcases r with _|⟨x,q⟩
 ·have e:s.dropWhile OH= []:=by rw[<-hr];rfl
  rw[e] at hK;refine yI ?_;refine .rt hK func198 results198 [_] ?_;exact okB
 ·have l1:(x::q).length=q.length+1:=rfl;have f1:(x::q)[(0:Int).toNat]? =some x:=rfl;cases hx:OH x with
  | false=>
   have e:s.dropWhile OH=x::q:=by rw[<-hr,List.dropWhile_cons,hx];rfl
   have hc:=fun(H':View) (h':H.le H')=> qG M H' b f gt gz (h' _ _ hb) x;rw[hx] at hc;rw[e] at hK;refine uQ ?_;refine .cl (fun H hs=> hc H hs.base) ?_;refine U9 ?_;refine .rt hK func198 results198 [_] ?_;exact okB
  | true=>
   have hc:=fun(H':View) (h':H.le H')=> qG M H' b f gt gz (h' _ _ hb) x;rw[hx] at hc;have e:((x::q).drop (1:Int).toNat).take ((((x::q).length:Nat):Int).toNat-(1:Int).toNat)=q:=by
    rw[l1,show(((q.length+1:Nat):Int)).toNat-(1:Int).toNat=q.length by omega];simp
   refine uQ ?_;refine .cl (fun H hs=> hc H hs.base) ?_;refine U6 ?_;refine .x (mA.yE (E:=en) rfl rfl rfl rfl rfl rfl oM oM oM) ?_;refine U2 ?_;rw[e];refine U ?_;exact Tc.db (ih ⟨q,by rw[<-hr,List.dropWhile_cons,hx];rfl,oM⟩ (by simp only;omega))
theorem gX(s:List UInt8)(hl:s.length<=1000000):dA M 168 #[nA s,nA KS] H (fun v H'=> H.le H'/\v=nA (AH s)):=by
 rcases s with _|⟨x,q⟩
 ·have e:AH []= []:=rfl;rw[e];refine .en func168 ntmps168 fun St c cs hK=> ?_;refine U20 ?_;refine .rt hK func168 results168 [_] ?_;exact okB
 ·have hlr:(dF (x::q)).length<=1000000:=by
   unfold dF;rw[List.length_reverse];have:=(List.dropWhile_sublist OH (l:=(x::q).reverse)).length_le;rw[List.length_reverse] at this;omega
  refine .en func168 ntmps168 fun St c cs hK=> ?_;refine U34 ?_;refine .cl (fun H hs=> fW M H) ?_;refine U3 ?_;refine .al fun b5=> ?_;refine fF ?_;refine .cl (fun H hs=> aS M H b5 true _ _ (hs.get (i:=0) rfl) (x::q) hl) ?_;refine .cl (fun H hs=> dU M H b5 true _ _ (hs.get (i:=0) rfl) (dF (x::q)) hlr) ?_;refine U2 ?_;refine .rt hK func168 results168 [_] ?_;exact okB
end
end Go.Proofs.YtgkmnalhddmclaaGreatDoor
namespace Go.RL
open Go.Conc
def QA(s:List UInt8):List Value:=s.map fun b=> .int .u8 (b.toNat:Nat)
theorem oG(s:List UInt8):(QA s).length=s.length:=by simp[QA]
theorem BS(s t:List UInt8):QA (s++t)=QA s++QA t:=by simp[QA]
theorem pN(s:List UInt8):(QA s).all single=true:=by
 rw[List.all_eq_true];intro x hx;obtain⟨b,_,rfl⟩:=List.mem_map.1 hx;rfl
section
variable {P:Program}{E:Env P}{M:Md P}{n:Nat}{H₀:View}{R:Rg}{L L':Bl}{K:Rg->Bl->Prop}{o:Oper}{d:Nat}{v:Value}
theorem OL(a:List UInt8)(b:UInt8):(ByteArray.mk ⟨a⟩).push b=ByteArray.mk ⟨a++[b]⟩:=by
 apply ByteArray.ext
 apply Array.ext'
 simp
theorem vI {H:View}{Q:ByteArray->View->Prop}(F:Value->ByteArray->Sem (ForInStep ByteArray))(hF:∀(b:UInt8) acc,F (.int .u8 (b.toNat:Nat)) acc=Sem.pure (.yield (acc.push b))):∀(s a:List UInt8),Q ⟨⟨a++s⟩⟩ H->vA P (forIn (QA s) (ByteArray.mk ⟨a⟩) F) H Q
 | [],a,h=> by
  rw[List.append_nil] at h;exact h
 | b::s,a,h=> by
  show vA P (forIn (Value.int .u8 (b.toNat:Nat)::QA s) (ByteArray.mk ⟨a⟩) F) H Q;rw[List.forIn_cons];refine aA _ _ ?_;rw[hF];show vA P (forIn (QA s) ((ByteArray.mk ⟨a⟩).push b) F) H Q;rw[OL];refine vI F hF s (a++[b]) ?_;rw[List.append_assoc];exact h
theorem RJ {H:View}{Q:Value->View->Prop}{y:Value}{m:Nat}{s:List UInt8}(h:gB H 1 y m (QA s))(hq:Q (nA s) H):vA P (Conv.bytesToString y) H Q:=by
 obtain⟨_,hl,⟨a,c,rfl,he⟩|⟨b,off,c,f,cs,e,fz,rfl,hb,hle,ht⟩⟩:=h
 ·have:s= []:=by cases s with
   | nil=> rfl
   | cons _ _=> cases he
  subst this;have hm:m=0:=by simpa [QA] using hl.symm
  subst hm;cases a with
  | none=> exact hq
  | some a=> exact hq
 ·have hm:m=(QA s).length:=by rw[hl,Nat.mul_one]
  unfold Conv.bytesToString;show vA P ((loadCellsFrom ⟨b,off,none⟩ 0 m #[]).bind _) H Q;refine aA _ _ (fE b off hb m 0 #[] (by rw[hm];omega) ?_);rw[hm,Nat.add_zero,ht];refine aA _ _ ?_;simp only[Array.empty_append,List.forIn_toArray];exact vI _ (fun b acc=> by
   show(pure (ForInStep.yield (acc.push (UInt8.ofNat ((b.toNat:Nat):Int).toNat))):Sem (ForInStep ByteArray))=Sem.pure (ForInStep.yield (acc.push b));rw[Int.toNat_natCast,UInt8.ofNat_toNat];rfl) s [] hq
theorem mA.O5 {t u e:TypeId}{x:Operand}{yv:Value}{m:Nat}{s:List UInt8}{r re r':uA}(gA:o.op=.convert t u x)(hx:BA R x=some yv)(vG:∀H,eA H₀ L H->gB H 1 yv m (QA s))(ht:E.ty t=some r)(hr:r.ds=.slice e)(hte:E.ty e=some re)(FC:re.ds=.int .u8)(LZ:E.ty u=some r')(rF:r'.ds=.str):
  mA P n H₀ R L o (nA s):=fun H tmps hs s3=> by
 unfold execOp;rw[gA];simp only[s3.ev hx];have h1:=vG H hs;obtain⟨⟨a,c,rfl⟩,_⟩:=h1;refine aA (convert t u (.slice a m c)) _ ?_;unfold convert;refine aA (underlying t) _ (cA (dC ((E.ok _ _ ht).ds.trans hr)) (aA (underlying u) _ (cA (rG ((E.ok _ _ LZ).ds.trans rF)) ?_)));refine aA (underlying e) _ (cA (bK ((E.ok _ _ hte).ds.trans FC)) ?_);exact RJ (vG H hs) ⟨rfl,rfl⟩
end
end Go.RL
namespace Go.Proofs.YtgkmnalhddmclaaGreatDoor
open Go.RL Go.Proofs.Tryz
set_option maxRecDepth 10000
set_option maxHeartbeats 8000000
theorem aAf:∀x:Nat,x<256->IntKind.u8.wrap (x:Int)=(x:Int):=by decide +kernel
end Go.Proofs.YtgkmnalhddmclaaGreatDoor
namespace Go.RL
open Go.Conc
section
variable {P:Program}{E:Env P}{M:Md P}{n:Nat}{H₀:View}{R:Rg}{L L':Bl}{K:Rg->Bl->Prop}{o:Oper}{d:Nat}{v:Value}
structure Xt(P:Program)(f:FuncId)(e:Array Value->Sem Value):Prop where
 ex:∃fn,P.funcs[f]? =some fn/\(fn.name== "runtime.NumGoroutine")=false/\fn.body.isNone=true/\Extern.findNext fn=none/\Extern.find fn=some e
theorem LW {g:FuncId}{e:Array Value->Sem Value}{args:Array Value}{H:View}{Q:Next->View->Prop}(he:Xt P g e)(h:vA P (e args) H fun u H'=> Q (.value u) H'):vA P (callFunc g args) H Q:=by
 obtain⟨fn,h1,h2,h3,h4,h5⟩:=he;show vA P (match P.funcs[g]? with|none=> _|some fn=> _) H Q;rw[h1];simp only[h2,h3,h4,h5,Bool.false_eq_true,if_false,if_true];refine⟨rfl,?_⟩;exact aA (e args) _ h
theorem mA.entry {cl:Go.Call}{x:Operand}{g:FuncId}{az:List Value}{e:Array Value->Sem Value}(gA:o.op=.call cl)(HB:cl.callee=.value x)(hx:BA R x=some (.func (.func g) #[] #[]))(has:ZD R cl.args.toList=some az)(he:Xt P g e)
  (hv:∀(H:View) (Q:Value->View->Prop),Q v H->vA P (e az.toArray) H Q):mA P n H₀ R L o v:=fun H tmps _ hr=> by
 have e1:=hr.ev hx;have WG:cl.args.map (vB tmps)=az.toArray:=by
  apply Array.ext'
  simpa using hr.evs has
 have hex:execOp (vB tmps) o=(resolve (vB tmps) cl o.type).bind fun d=> invoke d.target d.args:=by unfold execOp;rw[gA];rfl
 rw[hex];have:((resolve (vB tmps) cl o.type).bind fun d=> invoke d.target d.args)=(Deferred.ofValue (.func (.func g) #[] #[]) az.toArray).bind fun d=> invoke d.target d.args:=by
  unfold resolve;rw[HB];simp only[e1,WG]
 rw[this];simp only[Deferred.ofValue];show vA P (callFunc g (#[]++az.toArray ++ #[])) H _;have e3:(#[]:Array Value)++az.toArray ++ #[]=az.toArray:=by simp
 rw[e3];exact LW he (hv H _ ⟨rfl,rfl⟩)
theorem mU {H:View}{r:Nat}{f:Bool}{c:Array Value}{e:TypeId}{fz:Nat×Nat}{Q:Option (Addr×TypeId)->View->Prop}(hb:H r=some (f,.cells c e fz))(h:Q none H):vA P (viewAt r) H Q:=⟨f,c,e,fz,hb,h⟩
theorem kS {H:View}{r:Nat}{f:Bool}{c:Array Value}{e:TypeId}{fz:Nat×Nat}{Q:Option Nat->View->Prop}(hb:H r=some (f,.cells c e fz))(h:Q (some c.size) H):vA P (cellsIn r) H Q:=⟨f,c,e,fz,hb,h⟩
theorem YM {H:View}{a:Addr}{f:Bool}{c:Array Value}{e:TypeId}{fz:Nat×Nat}{Q:Addr->View->Prop}(hb:H a.block=some (f,.cells c e fz))(h:Q a H):vA P (Conv.seenAt a) H Q:=by
 refine aA (viewAt a.block) _ (mU hb ?_);exact h
theorem mA.aDu(j:Nat){t u pt:TypeId}{x:Operand}{blk off:Nat}{f:Bool}{c:List Value}{e:TypeId}{fz:Nat×Nat}{r:uA}(gA:o.op=.convert t u x)(hx:BA R x=some (.pointer (some ⟨blk,off,none⟩)))(hi:L[j]? =some (blk,f,.cells ⟨c⟩ e fz))
  (ht:P.underlying t=some (.pointer pt)) (hu:P.underlying u=some .unsafePointer) (hr:E.ty pt=some r) (h0:Nat.beq r.size 0=false) (hl:Nat.blt off c.length=true):mA P n H₀ R L o (.pointer (some ⟨blk,off,none⟩)):=fun H tmps hs s3=> by
 unfold execOp;rw[gA];simp only[s3.ev hx];refine aA (convert t u (.pointer (some ⟨blk,off,none⟩))) _ ?_;unfold convert;refine aA (underlying t) _ (cA ht (aA (underlying u) _ (cA hu ?_)));show vA P (Conv.unsafePointer t u (.pointer (some ⟨blk,off,none⟩))) H _;unfold Conv.unsafePointer;refine aA (underlying t) _ (cA ht (aA (underlying u) _ (cA hu ?_)));have hb:=hs.get hi;refine aA (Conv.seenAt ⟨blk,off,none⟩) _ (YM hb ?_);refine aA (cellsIn blk) _ (kS hb ?_);refine aA (sizeOf pt) _ (CA (E.ok _ _ hr).size ?_);have h1:r.size≠0:=Nat.ne_of_beq_eq_false h0;have h2:off<c.length:=by simpa [Nat.blt_eq] using hl
 have h3:(decide (r.size=0)||(decide (off≥(⟨c⟩:Array Value).size)&&(none:Option (Nat×Nat)).isNone))=false:=by
  have e1:decide (r.size=0)=false:=decide_eq_false h1;have e2:decide (off≥(⟨c⟩:Array Value).size)=false:=decide_eq_false (by show ¬off≥c.length;omega);rw[e1,e2];rfl
 rw[if_neg (by intro h;exact Bool.false_ne_true (h3.symm.trans h))];exact⟨rfl,rfl⟩
theorem mA.B7(j:Nat){t u pt:TypeId}{x:Operand}{blk off:Nat}{f:Bool}{c:List Value}{e:TypeId}{fz:Nat×Nat}{r:uA}(gA:o.op=.convert t u x)(hx:BA R x=some (.pointer (some ⟨blk,off,none⟩)))(hi:L[j]? =some (blk,f,.cells ⟨c⟩ e fz))
  (ht:P.underlying t=some .unsafePointer) (hu:P.underlying u=some (.pointer pt)) (hr:E.ty pt=some r) (bR:liesAt P P.depth e (c.length/P.cellsOf e) off pt 1=true):mA P n H₀ R L o (.pointer (some ⟨blk,off,none⟩)):=fun H tmps hs s3=> by
 unfold execOp;rw[gA];simp only[s3.ev hx];refine aA (convert t u (.pointer (some ⟨blk,off,none⟩))) _ ?_;unfold convert;refine aA (underlying t) _ (cA ht (aA (underlying u) _ (cA hu ?_)));show vA P (Conv.unsafePointer t u (.pointer (some ⟨blk,off,none⟩))) H _;unfold Conv.unsafePointer;refine aA (underlying t) _ (cA ht (aA (underlying u) _ (cA hu ?_)));have hb:=hs.get hi;refine aA (Conv.seenAt ⟨blk,off,none⟩) _ (YM hb ?_);refine aA (sizeOf pt) _ (CA (E.ok _ _ hr).size ?_);refine aA (variablesAt ⟨blk,off,none⟩ pt 1) _ ?_;refine⟨f,_,_,_,hb,?_⟩;show vA P (Sem.pure (liesAt P P.depth e (c.length/P.cellsOf e) off pt 1)) H _;rw[bR];show vA P (if(decide (r.size=0)||true)=true then _ else _) H _;rw[if_pos (by rw[Bool.or_true])];exact⟨rfl,rfl⟩
theorem mA.UY(b:Bool){t u pt:TypeId}{x y:Operand}{p:Option Addr}(gA:o.op=.binOp .eql t x y u)(hx:BA R x=some (.pointer p))(hy:BA R y=some (.pointer none))(ht:P.underlying t=some (.pointer pt))(hb:p.isNone=b):mA P n H₀ R L o (.bool b):=fun H tmps _ hr=> by
 subst hb;unfold execOp;rw[gA];simp only[hr.ev hx,hr.ev hy];show vA P (((eqGuard .eql t x y (.pointer p) (.pointer none)).bind fun _=> binOp .eql t (.pointer p) (.pointer none)).bind _) H _;refine aA _ _ (aA _ _ ?_);show vA P ((Op.equalIn (9999+1) t (.pointer p) (.pointer none)).bind fun c=> Sem.pure (Value.bool c)) H _;refine aA _ _ ?_;unfold Op.equalIn;refine aA (underlying t) _ (cA ht ?_);cases p <;> exact⟨rfl,rfl⟩
theorem mA.G4 {t u pt:TypeId}{x y:Operand}{a:Addr}{r:uA}(gA:o.op=.binOp .neq t x y u)(hx:BA R x=some (.pointer (some a)))(hy:BA R y=some (.pointer (some a)))(ht:P.underlying t=some (.pointer pt))(rF:E.ty pt=some r)(h0:Nat.beq r.size 0=false):
  mA P n H₀ R L o (.bool false):=fun H tmps _ hr=> by
 unfold execOp;rw[gA];simp only[hr.ev hx,hr.ev hy];show vA P (((eqGuard .neq t x y (.pointer (some a)) (.pointer (some a))).bind fun _=> binOp .neq t (.pointer (some a)) (.pointer (some a))).bind _) H _;refine aA _ _ (aA _ _ ?_);show vA P ((Op.equalIn (9999+1) t (.pointer (some a)) (.pointer (some a))).bind fun c=> Sem.pure (Value.bool (!c))) H _;refine aA _ _ ?_;unfold Op.equalIn;refine aA (underlying t) _ (cA ht ?_);refine aA (sizeOf pt) _ (CA (E.ok _ _ rF).size ?_);have h1:r.size≠0:=Nat.ne_of_beq_eq_false h0;show vA P (if r.size≠0 then sameAddr a a else _) H _;rw[if_pos h1];have e:vA P (sameAddr a a) H fun c H'=> c=true/\H'=H:=by
  unfold sameAddr;simp only[BEq.rfl,if_true];exact⟨rfl,rfl⟩
 refine NA _ ?_ e;rintro _ _ ⟨rfl,rfl⟩;exact⟨rfl,rfl⟩
def lY(s:List UInt8)(c:UInt8):Int:=
 match (List.range s.length).find? fun i=> (ByteArray.mk ⟨s⟩)[i]! ==c with
 | some i=> (i:Nat)
 | none=> -1
theorem q5 {s:List UInt8}{c:Nat}{H:View}{Q:Value->View->Prop}(h:Q (.int .i64 (lY s (UInt8.ofNat c))) H):vA P (Extern.BytealgIndexByte.indexByte #[nA s,.int .u8 (c:Nat)]) H Q:=by
 show vA P (match (List.range s.length).find? fun i=> (ByteArray.mk ⟨s⟩)[i]! ==((c:Nat):Int).toNat.toUInt8 with|some i=> Sem.pure (goInt i)|none=> Sem.pure (goInt (-1))) H Q;rw[Int.toNat_natCast];have e:c.toUInt8=UInt8.ofNat c:=rfl;rw[e];unfold lY at h;split at h
 ·exact h
 ·exact h
end
section
variable {P:Program}{E:Env P}{M:Md P}{n:Nat}{H₀:View}{R:Rg}{L L':Bl}{o:Oper}{K:Rg->Bl->Prop}{d:Nat}
theorem eA.sub {H:View}(h:eA H₀ L H)(p:L'.Sublist L):eA H₀ L' H:=
 ⟨h.nodup.sublist (p.map _),fun x hx=> h.out x (p.subset hx),fun x hx=> h.at_ x (p.subset hx),h.base⟩
def oJ {σ:Type}(H₁:View)(val:σ->Value)(bl:σ->Bl)(p:σ->Prop)(v:Value)(H':View):Prop:=
 ∃s H₂,v=val s/\H₁.le H₂/\eA H₂ (bl s) H'/\p s
theorem Or.GV(k:Nat){σ:Type}(val:σ->Value)(bl:σ->Bl)(p:σ->Prop){cl:Go.Call}{x:Operand}{fv:Value}{az:List Value}(gA:o.op=.call cl)(HB:cl.callee=.value x)(hx:BA R x=some fv)(has:ZD R cl.args.toList=some az)
  (hc:∀H₁ H,eA H₀ (L.take k) H₁->eA H₁ (L.drop k) H->TC M fv az H (oJ H₁ val bl p))
  (hk:∀s,p s->∃R',(match o.dst with|some d=> d<n/\R'=(d,val s)::R|none=> R'=R)/\K R' (L.take k++bl s)):Or M n H₀ R L o K:=
 .K5 gA HB hx has (Q:=fun _ v H'=> ∃s,v=val s/\p s/\eA H₀ (L.take k++bl s) H') (fun H hs=> by
  have hs':eA H₀ (L.drop k++L.take k) H:=hs.perm (List.perm_append_comm.trans (by rw[List.take_append_drop]));obtain⟨H₁,h1,h2⟩:=hs'.iD;refine(hc H₁ H h2 h1).mono ?_;rintro v H' ⟨s,H₂,rfl,h3,h4,h5⟩;exact⟨s,rfl,h5,((h2.mono h3).append h4).perm List.perm_append_comm⟩) (by
  rintro H v H' hs ⟨s,rfl,h1,h2⟩;obtain⟨R',h3,h4⟩:=hk s h1;exact⟨_,R',h2,h3,h4⟩)
theorem Or.fD(k:Nat){σ:Type}(val:σ->Value)(bl:σ->Bl)(p:σ->Prop){cl:Go.Call}{x:Operand}{fv:Value}{az:List Value}(gA:o.op=.call cl)(HB:cl.callee=.value x)(hx:BA R x=some fv)(has:ZD R cl.args.toList=some az)(hd:o.dst=some d)(hn:d<n)
  (hc:∀H₁ H,eA H₀ (L.take k) H₁->eA H₁ (L.drop k) H->TC M fv az H (oJ H₁ val bl p))
  (hk:∀s,p s->K ((d,val s)::R) (L.take k++bl s)):Or M n H₀ R L o K:=
 .GV k val bl p gA HB hx has hc fun s hs=> ⟨_,by rw[hd];exact⟨hn,rfl⟩,hk s hs⟩
theorem Or.xX {t u e:TypeId}{x:Operand}{s:List UInt8}{r re r':uA}(gA:o.op=.convert t u x)(hx:BA R x=some (nA s))(ht:E.ty t=some r)(hr:r.ds=.str)(LZ:E.ty u=some r')(rF:r'.ds=.slice e)(hte:E.ty e=some re)(FC:re.ds=.int .u8)(hd:o.dst=some d)(hn:d<n)
  (hk:∀blk cap (jj:List Value) fz,K ((d,.slice (some ⟨blk,0,none⟩) s.length cap)::R) ((blk,true,.cells ⟨QA s++jj⟩ e fz)::L)):Or M n H₀ R L o K:=
 .val hd hn fun H tmps hs dY=> by
  unfold execOp;rw[gA];simp only[dY.ev hx];refine aA (convert t u (nA s)) _ ?_;unfold convert;refine aA (underlying t) _ (cA (rG ((E.ok _ _ ht).ds.trans hr)) (aA (underlying u) _ (cA (dC ((E.ok _ _ LZ).ds.trans rF)) ?_)));refine aA (underlying e) _ (cA (bK ((E.ok _ _ hte).ds.trans FC)) ?_);show vA P (Conv.stringToBytes e ⟨⟨s⟩⟩) H _;unfold Conv.stringToBytes;refine aA (choose _) _ ?_;intro tt;rw[if_neg (by simp[Question.forced])];generalize (Question.appendCap (ByteArray.mk ⟨s⟩).size 0 e).cut tt=cap;refine aA (newRow e _) _ ?_;have e1:(ByteArray.mk ⟨s⟩).data.map (fun b=> Value.int .u8 (b.toNat:Int))++Array.replicate (cap-(ByteArray.mk ⟨s⟩).size) (Value.int .u8 0)=⟨QA s++List.replicate (cap-s.length) (.int .u8 0)⟩:=by
   apply Array.ext'
   simp[QA]
   rfl
  rw[e1];intro blk UG;refine aA (markStringish ⟨blk,0,none⟩) _ ?_;refine⟨true,_,_,_,View.pA ..,?_⟩;refine⟨Nat.one_ne_zero,_,_,_,View.pA ..,?_⟩;refine⟨_,rfl,_,?_,hk blk cap (List.replicate (cap-s.length) (.int .u8 0)) ?fz⟩;have e2:∀(H:View) (b:Nat) (x y:Bool×Obj),(H.put b x).put b y=H.put b y:=fun H b x y=> by
   funext c
   by_cases h:c=b
   ·subst h;rw[View.pA,View.pA]
   ·rw[View.jA _ _ h,View.jA _ _ h,View.jA _ _ h]
  rw[e2];exact hs.cons _ UG
end
end Go.RL
namespace Go.Proofs.YtgkmnalhddmclaaGreatDoor
open Go.RL Go.Proofs.Tryz
set_option maxRecDepth 10000
set_option maxHeartbeats 16000000
section
variable(M:Md prog)(H:View)
theorem T4(m:Nat)(hm:m<10):dA M 186 #[.int .i64 (m:Nat)] H (fun v H'=> H.le H'/\v=nA [q7 m]):=by
 have e:(([48,49,50,51,52,53,54,55,56,57,97,98,99,100,101,102,103,104,105,106,107,108,109,110,111,112,113,114,115,116,117,118,119,120,121,122]:List UInt8).drop ((m:Nat):Int).toNat).take ((((m:Nat):Int)+1).toNat-((m:Nat):Int).toNat)= [q7 m]:=by
  rcases(by omega:m=0\/m=1\/m=2\/m=3\/m=4\/m=5\/m=6\/m=7\/m=8\/m=9) with rfl|rfl|rfl|rfl|rfl|rfl|rfl|rfl|rfl|rfl <;> rfl
 have hl:(([48,49,50,51,52,53,54,55,56,57,97,98,99,100,101,102,103,104,105,106,107,108,109,110,111,112,113,114,115,116,117,118,119,120,121,122]:List UInt8).length:Nat)=36:=rfl;rw[<-e];refine .en func186 ntmps186 fun St c cs hK=> ?_;refine uQ ?_;refine .x (mA.yE (E:=en) (l:= [48,49,50,51,52,53,54,55,56,57,97,98,99,100,101,102,103,104,105,106,107,108,109,110,111,112,113,114,115,116,117,118,119,120,121,122]) rfl rfl rfl rfl rfl rfl oM oM oM) ?_;refine U2 ?_;refine .rt hK func186 results186 [_] ?_;exact okB
end
end Go.Proofs.YtgkmnalhddmclaaGreatDoor
namespace Go.RL
open Go.Conc
section
variable {P:Program}{E:Env P}{M:Md P}{n:Nat}{H₀:View}{R:Rg}{L:Bl}{o:Oper}{K:Rg->Bl->Prop}
end
section
variable {P:Program}{E:Env P}{M:Md P}{n:Nat}{H₀:View}{R:Rg}{L:Bl}{o:Oper}{K:Rg->Bl->Prop}{d:Nat}
end
end Go.RL
namespace Go.Proofs.YtgkmnalhddmclaaGreatDoor
open Go.RL Go.Proofs.Tryz
set_option maxRecDepth 10000
set_option maxHeartbeats 16000000
def pE(l:List (List UInt8)):List Value:=l.map nA
theorem vO(l:List (List UInt8)):(pE l).length=l.length:=by simp[pE]
theorem DW(l m:List (List UInt8)):pE (l++m)=pE l++pE m:=by simp[pE]
end Go.Proofs.YtgkmnalhddmclaaGreatDoor
namespace Go.RL
open Go.Conc
section
variable {P:Program}{M:Md P}{St:View->Goroutine->Prop}{n:Nat}{b:FB}{H₀:View}{cs:List Frame}{R:Rg}{L L₁:Bl}{ds:List Deferred}{k:List Item}{md:Region.Mode}{ops:Array Oper}{S:Array Bool->View->Prop}{fuel:Nat}{listed:Array Bool}
end
end Go.RL
