/-
  The law DialLooked.
-/
import Derived.Test.YtdnfdeplcjaonaaGreatDoorF09
import Derived.Test.YtdnfdeplcjaonaaGreatDoorFZJ
namespace Go.Proofs.YtdnfdeplcjaonaaGreatDoor
open Go.RL
set_option maxRecDepth 10000
set_option maxHeartbeats 16000000
section
variable(H:View)
theorem Looked_w {St:View→Goroutine→Prop}{cs:List Frame}(hG:Glob H)(k:Bk)(A:Option Addr)(lc:Nat)(B:Option Addr)(tc:Nat)(F:Nat→Option Addr)(fc:Nat→Nat)(hB:BookAt H k A lc B tc F fc)(p:Int)(hp:0≤p∧p≤255)
   (hR:∀(H₀:View) (R:Rg) (L:Bl) (kk:List Item),lk R 4=some (.bool true)→H.le H₀→Tc (Mp Tryz.prog) St 105 ⟨7,.normal,none⟩ H₀ cs R L [] (.code .ret::kk)):
   Tc (Mp Tryz.prog) St 105 ⟨7,.normal,none⟩ H cs (argR [k.val A lc B tc,.int .u8 p]) [] [] [.code (bodyOf Tryz.f7)]:=by
 have hk:=hB.bk
 have hlives:=fun(H':View) (h:H.le H')=> lives_c H' (glob_le hG h)
 have hfitc:=fun(H':View) (h:H.le H')=> Fit_c (Mp Tryz.prog) H' k A lc B tc (hk.le h)
 cases hfit:k.fit with
 | false=>
   refine .sr ?_
   refine .e (.bx (zz:=fun b2=> ?_))
   refine .g ?_
   refine .done (.seq (.sr ?_))
   refine .x (.ld 0) ?_
   refine .c rfl rfl rfl rfl (fun H hs=> .f ca38 rfl (hfitc H hs.base false hfit)) ?_
   refine .x .nt ?_
   refine .done (.tt rfl (.sr ?_))
   refine .c rfl rfl rfl rfl (fun H hs=> .f ca18 rfl (hlives H hs.base)) ?_
   refine .g ?_
   refine .done ?_
   exact hR _ _ _ _ rfl (View.le_refl _)
 | true=>
   obtain⟨hgr,hal⟩:k.great=false∧k.alarm=0:=by
     unfold Bk.fit at hfit
     rw[Bool.and_eq_true] at hfit
     exact⟨by simpa using hfit.1,of_decide_eq_true hfit.2⟩
   have hsm:k.small:=Bk.ungreat_small hgr
   obtain⟨hgg,hnl6,hnt6,hok⟩:=Bk.valid hal
   have w1:IntKind.i64.wrap p=p:=wrap64 (by omega) (by omega)
   have hlook:=fun(H':View) (h:H.le H')=> Look_c H' k A lc B tc F fc (hB.le h) hsm (glob_le hG h) hal
   have hres:=fun(H':View) (h:H.le H')=> isV (lawResults_c (Mp Tryz.prog) H' k A lc B tc (hk.le h) hsm (glob_le hG h)) (w':=.int .i64 (k.resL.length:Nat)) (by unfold Bk.resN;rw[if_pos hal,resTo_len])
   have hworst:=fun(H':View) (h:H.le H') (t:Nat) (ht:t<k.nt)=> isV (worst_c (Mp Tryz.prog) H' k A lc B tc F fc (hB.le h) hsm (glob_le hG h) hal t ht) (w':=.int .i64 (k.left t:Nat)) (by rw[worst_left hal ht])
   have hr1:=res_pos hok
   have hcases:=look_in hal k.nt (Nat.le_refl _)
   change (k.look.1= -1∧k.look.2=(k.resL.length:Nat)∧∀i,i<k.nt→k.left i=k.resL.length)∨∃z:Nat,z<k.nt∧k.look.1=(z:Nat)∧k.look.2=(k.left z:Nat)∧k.left z<k.resL.length∧(∀i,i<k.nt→k.left z≤k.left i)∧∀i,i<z→k.left z<k.left i at hcases
   have hbd:=fun t (ht:t<k.nt)=> left_in hal ht
   have hrb:k.resL.length≤1000:=by
     have h1:=nodup_le (l:=k.resL) (m:=allRes k.nl) (distinct_nodup _) (fun z hz=> (mem_allRes _).2 (resL_in k hz))
     have h2:∀n,(allRes n).length=n+1:=by
       intro n
       induction n with
       | zero=> rfl
       | succ n ih=> unfold allRes;rw[List.length_append,ih];rfl
     rw[h2] at h1
     omega
   generalize k.look=lk0 at hlook hcases
   obtain⟨z1,n1⟩:=lk0
   unfold lookV at hlook
   simp only at hlook hcases
   rcases Nat.eq_zero_or_pos k.nt with h0|h0
   · obtain⟨rfl,rfl,_⟩|⟨z,hz,_⟩:=hcases
     · refine .sr ?_
       refine .e (.bx (zz:=fun b2=> ?_))
       refine .g ?_
       refine .done (.seq (.sr ?_))
       refine .x (.ld 0) ?_
       refine .c rfl rfl rfl rfl (fun H hs=> .f ca38 rfl (hfitc H hs.base true hfit)) ?_
       refine .x .nt ?_
       refine .done (.ff rfl (.skip (.sr ?_)))
       refine .x (.ld 0) ?_
       refine .c rfl rfl rfl rfl (fun H hs=> .f ca33 rfl (hlook H hs.base)) ?_
       refine .m ?_
       refine .x .et ?_
       refine .x .et ?_
       refine .x .et ?_
       refine .g ?_
       refine .g ?_
       refine .g ?_
       refine .done (.sr ?_)
       refine .x (.ld 0) ?_
       refine .c rfl rfl rfl rfl (fun H hs=> .f ca46 rfl (hres H hs.base)) ?_
       refine .g ?_
       refine .done (.seq (.sr ?_))
       refine .m ?_
       refine .i ?_ (z:=neq_f (by omega))
       refine .m ?_
       refine .m ?_
       refine .i ?_ (z:=lss_f (by omega))
       refine .x .pk ?_
       refine .m ?_
       refine .m ?_
       refine .i ?_ (z:=lss_f (by omega))
       refine .x .pk ?_
       refine .done (.ff rfl (.skip (.seq (.sr ?_))))
       refine .x .fa ?_
       refine .x (.ld 0) ?_
       refine .x .ln ?_
       refine .i ?_ (z:=eql_t (by omega))
       refine .done (.tt rfl (.sr ?_))
       refine .m ?_
       refine .i ?_ (z:=eql_t (by omega))
       refine .m ?_
       refine .m ?_
       refine .m ?_
       refine .i ?_ (z:=eql_t (by omega))
       refine .x .pk ?_
       refine .m ?_
       refine .c rfl rfl rfl rfl (fun H hs=> .f ca18 rfl (hlives H hs.base)) ?_
       refine .x .pk ?_
       refine .g ?_
       refine .done ?_
       exact hR _ _ _ _ rfl (View.le_refl _)
     · omega
   obtain⟨w,hw,hwp⟩:∃w:Nat,w<k.nt∧p%(k.nt:Nat)=(w:Nat):=by
     have h1:=Int.emod_nonneg p (show((k.nt:Nat):Int)≠0 by omega)
     have h2:=Int.emod_lt_of_pos p (show(0:Int)<(k.nt:Nat) by omega)
     exact⟨(p%(k.nt:Nat)).toNat,by omega,by omega⟩
   have e1:intBin .rem .i64 p (k.nt:Nat)=some (.int .i64 (w:Nat)):=by rw[rem_in (by omega) (by omega),hwp]
   have hbw:=hbd w hw
   obtain⟨rfl,rfl,hall⟩|⟨z,hz,rfl,rfl,hlt,hmin,hfirst⟩:=hcases
   · have hwa:=hall w hw
     refine .sr ?_
     refine .e (.bx (zz:=fun b2=> ?_))
     refine .g ?_
     refine .done (.seq (.sr ?_))
     refine .x (.ld 0) ?_
     refine .c rfl rfl rfl rfl (fun H hs=> .f ca38 rfl (hfitc H hs.base true hfit)) ?_
     refine .x .nt ?_
     refine .done (.ff rfl (.skip (.sr ?_)))
     refine .x (.ld 0) ?_
     refine .c rfl rfl rfl rfl (fun H hs=> .f ca33 rfl (hlook H hs.base)) ?_
     refine .m ?_
     refine .x .et ?_
     refine .x .et ?_
     refine .x .et ?_
     refine .g ?_
     refine .g ?_
     refine .g ?_
     refine .done (.sr ?_)
     refine .x (.ld 0) ?_
     refine .c rfl rfl rfl rfl (fun H hs=> .f ca46 rfl (hres H hs.base)) ?_
     refine .g ?_
     refine .done (.seq (.sr ?_))
     refine .m ?_
     refine .i ?_ (z:=neq_f (by omega))
     refine .m ?_
     refine .m ?_
     refine .i ?_ (z:=lss_f (by omega))
     refine .x .pk ?_
     refine .m ?_
     refine .m ?_
     refine .i ?_ (z:=lss_f (by omega))
     refine .x .pk ?_
     refine .done (.ff rfl (.skip (.seq (.sr ?_))))
     refine .x .fa ?_
     refine .x (.ld 0) ?_
     refine .x .ln ?_
     refine .i ?_ (z:=eql_f (by omega))
     refine .done (.ff rfl (.skip (.sr ?_)))
     refine .m ?_
     refine .x .cv ?_
     refine .x .fa ?_
     refine .x (.ld 0) ?_
     refine .x .ln ?_
     refine .i ?_ (z:=by assumption)
     refine .g ?_
     refine .done (.sr ?_)
     refine .x (.ld 0) ?_
     refine .m ?_
     refine .c rfl rfl rfl rfl (fun H hs=> .f ca47 rfl (hworst H hs.base w hw)) ?_
     refine .g ?_
     refine .done (.seq (.sr ?_))
     refine .m ?_
     refine .i ?_ (z:=eql_t (by omega))
     refine .done (.tt rfl (.sr ?_))
     refine .m ?_
     refine .m ?_
     refine .i ?_ (z:=eql_t (by omega))
     refine .m ?_
     refine .m ?_
     refine .m ?_
     refine .i ?_ (z:=eql_t (by omega))
     refine .x .pk ?_
     refine .m ?_
     refine .c rfl rfl rfl rfl (fun H hs=> .f ca18 rfl (hlives H hs.base)) ?_
     refine .x .pk ?_
     refine .g ?_
     refine .done ?_
     exact hR _ _ _ _ rfl (View.le_refl _)
   · have hbz:=hbd z hz
     have hmw:=hmin w hw
     have hin:=fun(H':View)=> In_c (Mp Tryz.prog) H' (z:Nat) 0 ((k.nt:Nat)-1) true (decide_eq_true (by omega))
     by_cases c1:z≤w
     · refine .sr ?_
       refine .e (.bx (zz:=fun b2=> ?_))
       refine .g ?_
       refine .done (.seq (.sr ?_))
       refine .x (.ld 0) ?_
       refine .c rfl rfl rfl rfl (fun H hs=> .f ca38 rfl (hfitc H hs.base true hfit)) ?_
       refine .x .nt ?_
       refine .done (.ff rfl (.skip (.sr ?_)))
       refine .x (.ld 0) ?_
       refine .c rfl rfl rfl rfl (fun H hs=> .f ca33 rfl (hlook H hs.base)) ?_
       refine .m ?_
       refine .x .et ?_
       refine .x .et ?_
       refine .x .et ?_
       refine .g ?_
       refine .g ?_
       refine .g ?_
       refine .done (.sr ?_)
       refine .x (.ld 0) ?_
       refine .c rfl rfl rfl rfl (fun H hs=> .f ca46 rfl (hres H hs.base)) ?_
       refine .g ?_
       refine .done (.seq (.sr ?_))
       refine .m ?_
       refine .i ?_ (z:=neq_f (by omega))
       refine .m ?_
       refine .m ?_
       refine .i ?_ (z:=lss_f (by omega))
       refine .x .pk ?_
       refine .m ?_
       refine .m ?_
       refine .i ?_ (z:=lss_f (by omega))
       refine .x .pk ?_
       refine .done (.ff rfl (.skip (.seq (.sr ?_))))
       refine .x .fa ?_
       refine .x (.ld 0) ?_
       refine .x .ln ?_
       refine .i ?_ (z:=eql_f (by omega))
       refine .done (.ff rfl (.skip (.sr ?_)))
       refine .m ?_
       refine .x .cv ?_
       refine .x .fa ?_
       refine .x (.ld 0) ?_
       refine .x .ln ?_
       refine .i ?_ (z:=by assumption)
       refine .g ?_
       refine .done (.sr ?_)
       refine .x (.ld 0) ?_
       refine .m ?_
       refine .c rfl rfl rfl rfl (fun H hs=> .f ca47 rfl (hworst H hs.base w hw)) ?_
       refine .g ?_
       refine .done (.seq (.sr ?_))
       refine .m ?_
       refine .i ?_ (z:=eql_f (by omega))
       refine .done (.ff rfl (.skip (.sr ?_)))
       refine .m ?_
       refine .x .fa ?_
       refine .x (.ld 0) ?_
       refine .x .ln ?_
       refine .i ?_ (z:=sub_in (by omega) (by omega))
       refine .c rfl rfl rfl rfl (fun H hs=> .f ca44 rfl (hin H)) ?_
       refine .m ?_
       refine .m ?_
       refine .m ?_
       refine .i ?_ (z:=lss_t (by omega))
       refine .x .pk ?_
       refine .m ?_
       refine .x (.ld 0) ?_
       refine .m ?_
       refine .c rfl rfl rfl rfl (fun H hs=> .f ca47 rfl (hworst H hs.base z hz)) ?_
       refine .m ?_
       refine .i ?_ (z:=eql_t (by omega))
       refine .x .pk ?_
       refine .m ?_
       refine .m ?_
       refine .m ?_
       refine .i ?_ (z:=geq_t (by omega))
       refine .x .pk ?_
       refine .m ?_
       refine .m ?_
       refine .m ?_
       refine .i ?_ (z:=geq_t (by omega))
       refine .m ?_
       refine .sk ?_
       refine .sk ?_
       refine .sk ?_
       refine .x .pk ?_
       refine .x .pk ?_
       refine .m ?_
       refine .c rfl rfl rfl rfl (fun H hs=> .f ca18 rfl (hlives H hs.base)) ?_
       refine .x .pk ?_
       refine .g ?_
       refine .done ?_
       exact hR _ _ _ _ rfl (View.le_refl _)
     · have hfw:=hfirst w (by omega)
       refine .sr ?_
       refine .e (.bx (zz:=fun b2=> ?_))
       refine .g ?_
       refine .done (.seq (.sr ?_))
       refine .x (.ld 0) ?_
       refine .c rfl rfl rfl rfl (fun H hs=> .f ca38 rfl (hfitc H hs.base true hfit)) ?_
       refine .x .nt ?_
       refine .done (.ff rfl (.skip (.sr ?_)))
       refine .x (.ld 0) ?_
       refine .c rfl rfl rfl rfl (fun H hs=> .f ca33 rfl (hlook H hs.base)) ?_
       refine .m ?_
       refine .x .et ?_
       refine .x .et ?_
       refine .x .et ?_
       refine .g ?_
       refine .g ?_
       refine .g ?_
       refine .done (.sr ?_)
       refine .x (.ld 0) ?_
       refine .c rfl rfl rfl rfl (fun H hs=> .f ca46 rfl (hres H hs.base)) ?_
       refine .g ?_
       refine .done (.seq (.sr ?_))
       refine .m ?_
       refine .i ?_ (z:=neq_f (by omega))
       refine .m ?_
       refine .m ?_
       refine .i ?_ (z:=lss_f (by omega))
       refine .x .pk ?_
       refine .m ?_
       refine .m ?_
       refine .i ?_ (z:=lss_f (by omega))
       refine .x .pk ?_
       refine .done (.ff rfl (.skip (.seq (.sr ?_))))
       refine .x .fa ?_
       refine .x (.ld 0) ?_
       refine .x .ln ?_
       refine .i ?_ (z:=eql_f (by omega))
       refine .done (.ff rfl (.skip (.sr ?_)))
       refine .m ?_
       refine .x .cv ?_
       refine .x .fa ?_
       refine .x (.ld 0) ?_
       refine .x .ln ?_
       refine .i ?_ (z:=by assumption)
       refine .g ?_
       refine .done (.sr ?_)
       refine .x (.ld 0) ?_
       refine .m ?_
       refine .c rfl rfl rfl rfl (fun H hs=> .f ca47 rfl (hworst H hs.base w hw)) ?_
       refine .g ?_
       refine .done (.seq (.sr ?_))
       refine .m ?_
       refine .i ?_ (z:=eql_f (by omega))
       refine .done (.ff rfl (.skip (.sr ?_)))
       refine .m ?_
       refine .x .fa ?_
       refine .x (.ld 0) ?_
       refine .x .ln ?_
       refine .i ?_ (z:=sub_in (by omega) (by omega))
       refine .c rfl rfl rfl rfl (fun H hs=> .f ca44 rfl (hin H)) ?_
       refine .m ?_
       refine .m ?_
       refine .m ?_
       refine .i ?_ (z:=lss_t (by omega))
       refine .x .pk ?_
       refine .m ?_
       refine .x (.ld 0) ?_
       refine .m ?_
       refine .c rfl rfl rfl rfl (fun H hs=> .f ca47 rfl (hworst H hs.base z hz)) ?_
       refine .m ?_
       refine .i ?_ (z:=eql_t (by omega))
       refine .x .pk ?_
       refine .m ?_
       refine .m ?_
       refine .m ?_
       refine .i ?_ (z:=geq_t (by omega))
       refine .x .pk ?_
       refine .m ?_
       refine .m ?_
       refine .m ?_
       refine .i ?_ (z:=geq_f (by omega))
       refine .m ?_
       refine .m ?_
       refine .m ?_
       refine .i ?_ (z:=gtr_t (by omega))
       refine .x .pk ?_
       refine .x .pk ?_
       refine .m ?_
       refine .c rfl rfl rfl rfl (fun H hs=> .f ca18 rfl (hlives H hs.base)) ?_
       refine .x .pk ?_
       refine .g ?_
       refine .done ?_
       exact hR _ _ _ _ rfl (View.le_refl _)
end
end Go.Proofs.YtdnfdeplcjaonaaGreatDoor
