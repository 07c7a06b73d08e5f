/-
  The law DialRight.
-/
import Derived.Test.YtdnfdeplcjaonaaGreatDoorF09
import Derived.Test.YtdnfdeplcjaonaaGreatDoorFZ6
namespace Go.Proofs.YtdnfdeplcjaonaaGreatDoor
open Go.RL
set_option maxRecDepth 10000
set_option maxHeartbeats 16000000
section
variable(H:View)
theorem Right_w {St:View→Goroutine→Prop}{cs:List Frame}(hG:Glob H)(k:Bk)(A:Option Addr)(lc:Nat)(B:Option Addr)(tc:Nat)(hk:BkAt H k A lc B tc)(p:Int)(hp:0≤p∧p≤255)(q:Int)(hq:0≤q∧q≤255)
   (hR:∀(H₀:View) (R:Rg) (L:Bl) (kk:List Item),lk R 6=some (.bool true)→H.le H₀→Tc (Mp Tryz.prog) St 188 ⟨14,.normal,none⟩ H₀ cs R L [] (.code .ret::kk)):
   Tc (Mp Tryz.prog) St 188 ⟨14,.normal,none⟩ H cs (argR [k.val A lc B tc,.int .u8 p,.int .u8 q]) [] [] [.code (bodyOf Tryz.f14)]:=by
 have hlives:=fun(H':View) (h:H.le H')=> lives_c H' (glob_le hG h)
 have hfitc:=fun(H':View) (h:H.le H')=> Fit_c (Mp Tryz.prog) H' k A lc B tc (hk.le h)
 cases hfit:k.fit with
 | false=>
   refine .sr ?_
   refine .e (.bx (zz:=fun b3=> ?_))
   refine .g ?_
   refine .done (.seq (.sr ?_))
   refine .x (.ld 0) ?_
   refine .c rfl rfl rfl rfl (fun H hs=> .f ca38 rfl (hfitc H hs.base false hfit)) ?_
   refine .x .nt ?_
   refine .m ?_
   refine .sk ?_
   refine .sk ?_
   refine .sk ?_
   refine .sk ?_
   refine .x .pk ?_
   refine .done (.tt rfl (.sr ?_))
   refine .c rfl rfl rfl rfl (fun H hs=> .f ca18 rfl (hlives H hs.base)) ?_
   refine .g ?_
   refine .done ?_
   exact hR _ _ _ _ rfl (View.le_refl _)
 | true=>
   obtain⟨hgr,hal⟩:k.great=false∧k.alarm=0:=by
     unfold Bk.fit at hfit
     rw[Bool.and_eq_true] at hfit
     exact⟨by simpa using hfit.1,of_decide_eq_true hfit.2⟩
   have hsm:k.small:=Bk.ungreat_small hgr
   obtain⟨hgg,hnl6,_,_⟩:=Bk.valid hal
   rcases Nat.eq_zero_or_pos k.nl with h0|h0
   · refine .sr ?_
     refine .e (.bx (zz:=fun b3=> ?_))
     refine .g ?_
     refine .done (.seq (.sr ?_))
     refine .x (.ld 0) ?_
     refine .c rfl rfl rfl rfl (fun H hs=> .f ca38 rfl (hfitc H hs.base true hfit)) ?_
     refine .x .nt ?_
     refine .m ?_
     refine .x .fa ?_
     refine .x (.ld 0) ?_
     refine .x .ln ?_
     refine .i ?_ (z:=eql_t (by omega))
     refine .x .pk ?_
     refine .done (.tt rfl (.sr ?_))
     refine .c rfl rfl rfl rfl (fun H hs=> .f ca18 rfl (hlives H hs.base)) ?_
     refine .g ?_
     refine .done ?_
     exact hR _ _ _ _ rfl (View.le_refl _)
   obtain⟨w,hw,hwp⟩:∃w:Nat,w<k.nl∧p%(k.nl:Nat)=(w:Nat):=by
     have h1:=Int.emod_nonneg p (show((k.nl:Nat):Int)≠0 by omega)
     have h2:=Int.emod_lt_of_pos p (show(0:Int)<(k.nl:Nat) by omega)
     exact⟨(p%(k.nl:Nat)).toNat,by omega,by omega⟩
   have w1:IntKind.i64.wrap p=p:=wrap64 (by omega) (by omega)
   have w2:IntKind.i64.wrap q=q:=wrap64 (by omega) (by omega)
   have e1:intBin .rem .i64 p (k.nl:Nat)=some (.int .i64 (w:Nat)):=by rw[rem_in (by omega) (by omega),hwp]
   obtain⟨P,hP,hPe⟩:∃P:Int,(k.gap≤P∧P<k.give)∧k.gap+q%(k.give-1-k.gap+1)=P:=by
     have h1:=Int.emod_nonneg q (show k.give-1-k.gap+1≠0 by omega)
     have h2:=Int.emod_lt_of_pos q (show 0<k.give-1-k.gap+1 by omega)
     exact⟨_,by omega,rfl⟩
   have hpick:=fun(H':View)=> isV (Pick_c (Mp Tryz.prog) H' k.gap (k.give-1) (by omega) q (by omega)) (w':=.int .i64 P) (by rw[hPe])
   have hto:=fun(H':View)=> to_c (Mp Tryz.prog) H' k.gap (k.give-1)
   have hnum:isNum (k.num w)=true:=(Bk.line_ok hal hw).2.2.1
   obtain⟨hdg,hl1,hl3⟩:=Bk.isNum_of hal hw
   have hpul:=fun(H':View)=> isV (Pulses_c (Mp Tryz.prog) H' (k.num w) (by omega)) (w':=.tuple ⟨[.int .i64 (takenN (k.num w):Nat),.int .i64 0]⟩) (by unfold pulsesV;rw[if_neg (by rw[hnum];decide)])
   have htl:=takenN_le (k.num w) hdg
   obtain⟨_,hz|⟨ab,ao,fa,gs,gt,gz,rfl,hab,hrow⟩⟩:=id hk.rows
   · omega
   obtain⟨F,fc,f1,_,_⟩:=hrow w hw
   have f2:ldL false 1 gs (ao+((w:Nat):Int).toNat*3+1)=some (strV (k.num w)):=ldL_cell f1 (by decide)
   refine .sr ?_
   refine .e (.bx (zz:=fun b3=> ?_))
   refine .g ?_
   refine .done (.seq (.sr ?_))
   refine .x (.ld 0) ?_
   refine .c rfl rfl rfl rfl (fun H hs=> .f ca38 rfl (hfitc H hs.base true hfit)) ?_
   refine .x .nt ?_
   refine .m ?_
   refine .x .fa ?_
   refine .x (.ld 0) ?_
   refine .x .ln ?_
   refine .i ?_ (z:=eql_f (by omega))
   refine .x .pk ?_
   refine .done (.ff rfl (.skip (.sr ?_)))
   refine .m ?_
   refine .x .cv ?_
   refine .x .fa ?_
   refine .x (.ld 0) ?_
   refine .x .ln ?_
   refine .i ?_ (z:=by assumption)
   refine .g ?_
   refine .done (.sr ?_)
   refine .x .fa ?_
   refine .x (.ld 0) ?_
   refine .x .fa ?_
   refine .x (.ld 0) ?_
   refine .i ?_ (z:=sub_in (by omega) (by omega))
   refine .c rfl rfl rfl rfl (fun H hs=> .f ca74 rfl (hto H)) ?_
   refine .m ?_
   refine .x .cv ?_
   refine .c rfl rfl rfl rfl (fun H hs=> .f ca73 rfl (hpick H)) ?_
   refine .g ?_
   refine .done (.sr ?_)
   refine .x .fa ?_
   refine .x (.ld 0) ?_
   refine .m ?_
   refine .x .ia ?_
   refine .x .fa ?_
   refine .x .l0 ?_
   refine .m ?_
   refine To.callF rfl rfl rfl rfl rfl rfl (by decide) (FnT.f ca69 rfl (Trains_yes (Mp Tryz.prog) H (k.num w) hnum P (by omega))) (fun v H₂ hv=> ?_)
   obtain⟨hle,g,rfl,⟨hgn,hgl⟩,hgb⟩:=hv
   have hT:=dial_trains k g (fun x hx=> (hgb x hx).1) hgn hgl
   have hgv:g.val=.slice (g.blk.map fun b=> ⟨b,0,none⟩) (k.num w).length g.cap:=by unfold Gl.val;rw[hgn]
   rw[hgv]
   generalize hG0:(g.blk.map fun b=> (⟨b,0,none⟩:Addr))=G at hT
   clear hgb hgv hG0
   generalize g.cap=gc at hT
   have hb2:=hle _ _ hab
   refine .m ?_
   refine .x .et ?_
   refine .x .et ?_
   refine .g ?_
   refine .g ?_
   refine .done (.sr ?_)
   refine .x .fa ?_
   refine .x (.ld 0) ?_
   refine .m ?_
   refine .x .ia ?_
   refine .x .fa ?_
   refine .x .l0 ?_
   refine .c rfl rfl rfl rfl (fun H hs=> .f ca67 rfl (hpul H)) ?_
   refine .m ?_
   refine .x .et ?_
   refine .x .et ?_
   refine .g ?_
   refine .g ?_
   refine .done ?_
   generalize hD:dialBk k (k.num w) P=D at hT
   have hDnl:D.nl=k.nl:=by rw[←hD];rfl
   have hDnt:D.nt=(k.num w).length:=by rw[←hD];rfl
   have hDval:D.val (some ⟨ab,ao,none⟩) lc G gc=.agg ⟨[.int .i64 k.gap,.int .i64 k.give,.slice (some ⟨ab,ao,none⟩) k.nl lc,.slice G (k.num w).length gc]⟩:=by rw[←hD];rfl
   have hDk:BkAt H₂ D (some ⟨ab,ao,none⟩) lc G gc:=⟨by rw[←hD];exact hk.rows.le hle,hT⟩
   have hDal:D.alarm=0:=by rw[←hD];exact dial_alarm hal hdg (by omega) (by omega)
   have hDsm:D.small:=by rw[←hD];exact⟨hsm.nl,by show(k.num w).length≤1000;omega,hsm.num⟩
   have hDcl:∀z,D.claimOf z=if z=(w:Nat) then 1 else 2:=by rw[←hD];exact dial_claim hal hw hP
   have hDst:D.settled=some ((k.num w).length,((w:Nat):Int)):=by rw[←hD];exact dial_settled hal hw hP
   have hDnm:∀i,i<D.nl→(D.name i).length≤1000000:=by rw[←hD];intro i hi;have:=(Bk.ungreat hgr).2.2 i hi;show(k.name i).length≤_;omega
   have hchk:=fun(H':View) (h:H₂.le H')=> isV (refCheckBook_c (Mp Tryz.prog) H' D (some ⟨ab,ao,none⟩) lc G gc (hDk.le h) hDsm hDnm) (w':=.int .i64 0) (by rw[hDal])
   have hset:=fun(H':View) (h:H₂.le H')=> isV (Settled_c (Mp Tryz.prog) H' D (some ⟨ab,ao,none⟩) lc G gc (hDk.le h) hDsm (glob_le hG (View.le_trans hle h)) hDal) (w':=.tuple ⟨[.int .i64 ((k.num w).length:Nat),.int .i64 (w:Nat),.bool true,.int .i64 0]⟩) (by rw[hDst];rfl)
   have hrea:=fun(H':View) (h:H₂.le H')=> Reaches_c (Mp Tryz.prog) H' D (some ⟨ab,ao,none⟩) lc G gc (hDk.le h) hDsm (glob_le hG (View.le_trans hle h)) hDal
   rw[hDval] at hchk hset hrea
   rw[hDcl,if_neg (by omega),hDnl] at hrea
   have hTr:=hT
   obtain⟨_,hz|⟨tb,to,tf,ts,tt,tz,rfl,htb,htrow⟩⟩:=hTr
   · omega
   have hpf:∀i,D.pf i=(pnAt (k.num w) i:Nat):=by intro i;rw[←hD];rfl
   clear hT hDk
   refine .sr ?_
   refine .x (.ld 0) ?_
   refine .e (.al (zz:=fun b13=> ?_))
   refine .e (.st 0 (zz:=?_))
   refine .done (.sr ?_)
   refine .m ?_
   refine .x .fa ?_
   refine .e (.st 0 (zz:=?_))
   refine .done (.seq (.sr ?_))
   refine .m ?_
   refine .i ?_ (z:=neq_f (by omega))
   refine .m ?_
   refine .m ?_
   refine .i ?_ (z:=neq_f (by omega))
   refine .x .pk ?_
   refine .m ?_
   refine .x (.ld 0) ?_
   refine .c rfl rfl rfl rfl (fun H hs=> .f ca22 rfl (hchk H hs.base)) ?_
   refine .i ?_ (z:=neq_f (by omega))
   refine .x .pk ?_
   refine .m ?_
   refine .m ?_
   refine .x .ln ?_
   refine .x .fa ?_
   refine .x (.ld 1) ?_
   refine .m ?_
   refine .x .ia ?_
   refine .x .fa ?_
   refine .x .l0 ?_
   refine .x (OpV.lenS (E:=en) rfl rfl rfl rfl rfl rfl rfl) ?_
   refine .i ?_ (z:=neq_f (by omega))
   refine .x .pk ?_
   refine .done (.ff rfl (.skip (.sr ?_)))
   refine .x (.ld 0) ?_
   refine To.callF rfl rfl rfl rfl rfl rfl (by decide) (FnT.f ca26 rfl (hrea H₂ (View.le_refl _))) (fun v H₃ hv=> ?_)
   obtain⟨hle3,g3,rfl,⟨hgn3,hgl3⟩,hgb3⟩:=hv
   have hF:=cl_free g3 (fun x hx=> (hgb3 x hx).1) hgl3
   rw[hgn3] at hF
   have hgv:g3.val=.slice (g3.blk.map fun b=> ⟨b,0,none⟩) k.nl g3.cap:=by unfold Gl.val;rw[hgn3]
   unfold reachV
   rw[hgv]
   generalize (g3.blk.map fun b=> (⟨b,0,none⟩:Addr))=G3 at hF
   generalize g3.cap=c3 at *
   clear hgb3 hgv
   have hb3:=hle3 _ _ hb2
   have htb3:=hle3 _ _ htb
   refine .m ?_
   refine .x .et ?_
   refine .x .et ?_
   refine .x .et ?_
   refine .g ?_
   refine .g ?_
   refine .g ?_
   refine .done (.sr ?_)
   refine .x (.ld 0) ?_
   refine .c rfl rfl rfl rfl (fun H hs=> .f ca31 rfl (hset H (View.le_trans hle3 hs.base))) ?_
   refine .m ?_
   refine .x .et ?_
   refine .x .et ?_
   refine .x .et ?_
   refine .x .et ?_
   refine .g ?_
   refine .g ?_
   refine .g ?_
   refine .g ?_
   refine .done (.seq (.sr ?_))
   refine .m ?_
   refine .i ?_ (z:=neq_f (by omega))
   refine .m ?_
   refine .m ?_
   refine .i ?_ (z:=neq_f (by omega))
   refine .x .pk ?_
   refine .m ?_
   refine .m ?_
   refine .i ?_ (z:=neq_f (by omega))
   refine .x .pk ?_
   refine .m ?_
   refine .m ?_
   refine .x .ln ?_
   refine .x .fa ?_
   refine .x (.ld 1) ?_
   refine .x .ln ?_
   refine .i ?_ (z:=neq_f (by omega))
   refine .x .pk ?_
   refine .m ?_
   refine .m ?_
   refine .x .nt ?_
   refine .x .pk ?_
   refine .m ?_
   refine .m ?_
   refine .m ?_
   refine .x .ln ?_
   refine .i ?_ (z:=neq_f (by omega))
   refine .x .pk ?_
   refine .m ?_
   refine .m ?_
   refine .m ?_
   refine .i ?_ (z:=neq_f (by omega))
   refine .x .pk ?_
   refine .done (.ff rfl (.skip (.sr ?_)))
   refine .g ?_
   refine .done (.seq (.sr ?_))
   refine .g ?_
   refine .done (.block ?_)
   refine Tc.db (Tc.loopInv (σ:= { j:Nat//j≤(k.num w).length }) (fun j=> ([(3,.pointer (some ⟨b3,0,none⟩)),(7,.int .i64 (w:Nat)),(9,.slice (some ⟨tb,to,none⟩) (k.num w).length gc),(11,.int .i64 (takenN (k.num w):Nat)),(14,.slice G3 k.nl c3),(21,.int .i64 (takenN ((k.num w).take j.1):Nat)),(22,.int .i64 (j.1:Nat))],[])) (fun j=> (k.num w).length-j.1) ?_ ⟨0,Nat.zero_le _⟩)
   rintro⟨j,hj⟩ ih
   show Tc (Mp Tryz.prog) St _ _ _ _ [(3,.pointer (some ⟨b3,0,none⟩)),(7,.int .i64 (w:Nat)),(9,.slice (some ⟨tb,to,none⟩) (k.num w).length gc),(11,.int .i64 (takenN (k.num w):Nat)),(14,.slice G3 k.nl c3),(21,.int .i64 (takenN ((k.num w).take j):Nat)),(22,.int .i64 (j:Nat))] [] _ _
   by_cases d1:j=(k.num w).length
   · clear ih
     rw[d1,List.take_length]
     have d1':((j:Nat):Int)=((k.num w).length:Nat):=by rw[d1]
     refine .seq (.sr ?_)
     refine .m ?_
     refine .m ?_
     refine .x .ln ?_
     refine .i ?_ (z:=lss_f (by omega))
     refine .done (.ff rfl (.exit rfl (.seq (.sr ?_))))
     refine .g ?_
     refine .done (.block ?_)
     refine Tc.db (Tc.loopInv (σ:= { j:Nat//j≤k.nl }) (fun j=> ([(7,.int .i64 (w:Nat)),(11,.int .i64 (takenN (k.num w):Nat)),(14,.slice G3 k.nl c3),(21,.int .i64 (takenN (k.num w):Nat)),(23,.int .i64 (j.1:Nat))],[])) (fun j=> k.nl-j.1) ?_ ⟨0,Nat.zero_le _⟩)
     rintro⟨i,hi⟩ ih
     show Tc (Mp Tryz.prog) St _ _ _ _ [(7,.int .i64 (w:Nat)),(11,.int .i64 (takenN (k.num w):Nat)),(14,.slice G3 k.nl c3),(21,.int .i64 (takenN (k.num w):Nat)),(23,.int .i64 (i:Nat))] [] _ _
     by_cases d2:i=k.nl
     · clear ih
       refine .seq (.sr ?_)
       refine .m ?_
       refine .m ?_
       refine .x .ln ?_
       refine .i ?_ (z:=lss_f (by omega))
       refine .done (.ff rfl (.exit rfl (.sr ?_)))
       refine .m ?_
       refine .m ?_
       refine .i ?_ (z:=eql_t (by omega))
       refine .m ?_
       refine .c rfl rfl rfl rfl (fun H hs=> .f ca18 rfl (hlives H (View.le_trans hle (View.le_trans hle3 hs.base)))) ?_
       refine .x .pk ?_
       refine .g ?_
       refine .done ?_
       exact hR _ _ _ _ rfl (View.le_trans hle hle3)
     · have d3:i<k.nl:=by omega
       obtain hz|⟨xb,xo,f,xs,xt,xz,rfl,hxb,hxl⟩:=hF
       · omega
       have f4:ldL false 1 xs (xo+((i:Nat):Int).toNat*1)=some (.int .i64 (D.claimOf (i:Nat))):=hxl i d3
       rw[hDcl] at f4
       by_cases d4:i=w
       · rw[if_pos (by omega)] at f4
         refine .seq (.sr ?_)
         refine .m ?_
         refine .m ?_
         refine .x .ln ?_
         refine .i ?_ (z:=lss_t (by omega))
         refine .done (.tt rfl (.skip (.seq (.block (.sr ?_)))))
         refine .m ?_
         refine .m ?_
         refine .x .ia ?_
         refine .x .l0 ?_
         refine .i ?_ (z:=eql_t (by omega))
         refine .m ?_
         refine .m ?_
         refine .i ?_ (z:=eql_t (by omega))
         refine .x .nb ?_
         refine .m ?_
         refine .m ?_
         refine .m ?_
         refine .x .ia ?_
         refine .x .l0 ?_
         refine .i ?_ (z:=eql_f (by omega))
         refine .m ?_
         refine .m ?_
         refine .i ?_ (z:=neq_f (by omega))
         refine .x .nb ?_
         refine .x .pk ?_
         refine .done (.ff rfl (.skip (.inBlock (.r ?_))))
         refine .m ?_
         refine .i ?_ (z:=add_in (by omega) (by omega))
         refine .g ?_
         refine .done ?_
         exact Tc.db (ih ⟨i+1,by omega⟩ (by simp only;omega))
       · rw[if_neg (by omega)] at f4
         refine .seq (.sr ?_)
         refine .m ?_
         refine .m ?_
         refine .x .ln ?_
         refine .i ?_ (z:=lss_t (by omega))
         refine .done (.tt rfl (.skip (.seq (.block (.sr ?_)))))
         refine .m ?_
         refine .m ?_
         refine .x .ia ?_
         refine .x .l0 ?_
         refine .i ?_ (z:=eql_f (by omega))
         refine .m ?_
         refine .m ?_
         refine .i ?_ (z:=eql_f (by omega))
         refine .x .nb ?_
         refine .m ?_
         refine .m ?_
         refine .m ?_
         refine .x .ia ?_
         refine .x .l0 ?_
         refine .i ?_ (z:=eql_t (by omega))
         refine .m ?_
         refine .m ?_
         refine .i ?_ (z:=neq_t (by omega))
         refine .x .nb ?_
         refine .x .pk ?_
         refine .done (.ff rfl (.skip (.inBlock (.r ?_))))
         refine .m ?_
         refine .i ?_ (z:=add_in (by omega) (by omega))
         refine .g ?_
         refine .done ?_
         exact Tc.db (ih ⟨i+1,by omega⟩ (by simp only;omega))
   · have d2:j<(k.num w).length:=by omega
     have f3:=htrow j (by rw[hDnt];exact d2)
     have f5:ldL false 1 ts (to+((j:Nat):Int).toNat*4)=some (.int .i64 (pnAt (k.num w) j:Nat)):=by
       have:=ldL_cell (d:=0) f3 (by decide)
       rw[hpf] at this
       exact this
     have e5:takenN ((k.num w).take (j+1))=takenN ((k.num w).take j)+pnAt (k.num w) j:=by
       rw[takenN_at (List.getElem?_eq_getElem d2)]
       unfold pnAt
       rw[List.getElem?_eq_getElem d2]
       rfl
     have hpa:=pnAt_in hdg j
     have e7:takenN ((k.num w).take j)≤100:=by
       have:=takenN_le ((k.num w).take j) (by rw[List.all_eq_true];intro x hx;exact List.all_eq_true.1 hdg x (List.mem_of_mem_take hx))
       rw[List.length_take] at this
       omega
     have e6:intBin .add .i64 (takenN ((k.num w).take j):Nat) (pnAt (k.num w) j:Nat)=some (.int .i64 (takenN ((k.num w).take (j+1)):Nat)):=by
       rw[add_in (by omega) (by omega),e5];rfl
     refine .seq (.sr ?_)
     refine .m ?_
     refine .m ?_
     refine .x .ln ?_
     refine .i ?_ (z:=lss_t (by omega))
     refine .done (.tt rfl (.skip (.seq (.block (.r ?_)))))
     refine .m ?_
     refine .m ?_
     refine .m ?_
     refine .x .ia ?_
     refine .x .fa ?_
     refine .x .fa ?_
     refine .x .l0 ?_
     refine .i ?_ (z:=by assumption)
     refine .g ?_
     refine .done (.inBlock (.r ?_))
     refine .m ?_
     refine .i ?_ (z:=add_in (by omega) (by omega))
     refine .g ?_
     refine .done ?_
     exact Tc.db (ih ⟨j+1,by omega⟩ (by simp only;omega))
end
end Go.Proofs.YtdnfdeplcjaonaaGreatDoor
