/-
  Texts of the proofs over baudot/dial: C5 App2 C6 C7 Draw5 C8 S8 C9 S9 H1 X1 Z1.
-/
import Derived.Test.YtdnfdeplcjaonaaGreatDoorF06
section
namespace Go.Proofs.YtdnfdeplcjaonaaGreatDoor
open Go.RL
set_option maxRecDepth 10000
set_option maxHeartbeats 16000000
theorem mem_allFrom {dg:List UInt8}:∀(d:Nat) (s x:List UInt8),x∈allFrom dg d s→x.length=s.length+d∧∀y∈x,y∈s∨y∈dg
 | 0,s,x,h=> by
   have:x=s:=by simpa [allFrom] using h
   subst this
   exact⟨rfl,fun y hy=> .inl hy⟩
 | d + 1,s,x,h=> by
   obtain⟨z,hz,h2⟩:=List.mem_flatMap.1 h
   obtain⟨h3,h4⟩:=mem_allFrom d _ x h2
   refine⟨by rw[h3,List.length_append];show s.length+1+d=_;omega,fun y hy=> ?_⟩
   rcases h4 y hy with h5|h5
   · rcases List.mem_append.1 h5 with h6|h6
     · exact .inl h6
     · have:y=z:=by simpa using h6
       subst this
       exact .inr hz
   · exact .inr h5
theorem mem_allL {dg:List UInt8}{n:Nat}{x:List UInt8}(h:x∈allL dg n):x.length=n∧∀y∈x,y∈dg:=by
 obtain⟨h1,h2⟩:=mem_allFrom n [] x h
 exact⟨by simpa using h1,fun y hy=> (h2 y hy).resolve_left (by simp)⟩
theorem digs_dig:digs.all dig=true:=by decide +kernel
def Bk.spareOk(k:Bk)(sf:Bool)(x:List UInt8):Bool:=!k.clash x&&(!sf||k.safe x)
def Bk.spare(k:Bk)(n:Nat)(sf:Bool):Option (List UInt8):=(allL digs n).find? (k.spareOk sf)
def spare3(x:List UInt8)(t:Bool)(a:Int):Value:=.tuple ⟨[strV x,.bool t,.int .i64 a]⟩
def Bk.spareV(k:Bk)(z:Int)(sf:Bool):Value:=
 if k.alarm≠0 then spare3 [] false k.alarm else if ¬(1≤z∧z≤3) then spare3 [] false 1 else match k.spare z.toNat sf with
   | some x=> spare3 x true 0
   | none=> spare3 [] false 0
section
variable(M:Md Tryz.prog)(H:View)
theorem Spare_c(k:Bk)(A:Option Addr)(lc:Nat)(B:Option Addr)(tc:Nat)(hk:BkAt H k A lc B tc)(hn:k.small)(hG:Glob H)(z:Int)(sf:Bool):
   CallT M 50 #[k.val A lc B tc,.int .i64 z,.bool sf] H (fun v H'=> H.le H'∧v=k.spareV z sf):=by
 by_cases ha:k.alarm=0
 · have hop:=fun(H':View) (h':H.le H')=> open_yes M H' k A lc B tc (hk.le h') hn (glob_le hG h') ha
   by_cases c1:1≤z∧z≤3
   · obtain ⟨n,rfl⟩:∃n:Nat,z=n:=⟨z.toNat,by omega⟩
     have ev:k.spareV (n:Nat) sf=match k.spare n sf with
         | some x=> spare3 x true 0
         | none=> spare3 [] false 0:=by
       unfold Bk.spareV
       rw[if_neg (by simp[ha]),if_neg (fun h=> h c1)]
       rfl
     have hbt:=fun(H':View)=> between_is M H' ((n:Nat):Int) 1 3 true (decide_eq_true c1)
     refine CallT.enter (vs:= [k.val A lc B tc,.int .i64 (n:Nat),.bool sf]) Tryz.func50 rfl Tryz.ntmps50 (Nat.le_of_ble_eq_true rfl) (SymSt.nil _) fun St c cs hK=> ?_
     refine .sr ?_
     refine .e (.bx (zz:=fun b3=> ?_))
     refine .e (.bx (zz:=fun b5=> ?_))
     refine .e (.al (zz:=fun b6=> ?_))
     refine .e (.al (zz:=fun b7=> ?_))
     refine .e (.al (zz:=fun b8=> ?_))
     refine .done (.sr ?_)
     refine .x (.ld 4) ?_
     refine .c rfl rfl rfl rfl (fun H hs=> .f ca81 rfl (hop H hs.base)) ?_
     refine .m ?_
     refine .x .et ?_
     refine .x .et ?_
     refine .e (.al (zz:=fun b9=> ?_))
     refine .e (.st 0 (zz:=?_))
     refine .e (.st 1 (zz:=?_))
     refine .done (.seq (.block (.sr ?_)))
     refine .x (.ld 1) ?_
     refine .i ?_ (z:=neq_f (by omega))
     refine .g ?_
     refine .done (.ff rfl (.sr ?_))
     refine .m ?_
     refine .c rfl rfl rfl rfl (fun H hs=> .f ca82 rfl (hbt H)) ?_
     refine .x .nt ?_
     refine .g ?_
     refine .done (.ff rfl (.skip (.inBlock (.seq (.sr ?_)))))
     refine .m ?_
     refine To.callF rfl rfl rfl rfl rfl rfl (by decide) (FnT.f ca116 rfl (all_c M H n digs)) (fun v H₁ hv=> ?_)
     obtain⟨hle1,a1,a2,rfl,hcap⟩:=hv
     refine .done ?_
     have hit:=fun(H':View) (_:CapA n digs a1 a2 H')=> all_it M H' n digs (by omega) digs_dig (by decide) a1 a2
     refine .block ?_
     refine Tc.db (R':= [(3,.pointer (some ⟨b3,0,none⟩)),(5,.pointer (some ⟨b5,0,none⟩)),(6,.pointer (some ⟨b6,0,none⟩)),(7,.pointer (some ⟨b7,0,none⟩)),(8,.pointer (some ⟨b8,0,none⟩)),(9,.pointer (some ⟨b9,0,none⟩)),(25,allF a1 a2)])
       (L':= [(b9,true,.cells ⟨(k.val A lc B tc).cells.toList⟩ 113 (0,0)),(b8,true,.cells ⟨[.int .i64 0]⟩ 29 (0,0)),(b7,true,.cells ⟨[.bool false]⟩ 4 (0,0)),(b6,true,.cells ⟨[strV []]⟩ 9 (0,0)),(b5,true,.cells ⟨[.bool sf]⟩ 4 (0,0)),(b3,true,.cells ⟨(k.val A lc B tc).cells.toList⟩ 25 (0,0))]) ?_
     refine Tc.rangeL (A:= []) (ts:= [26]) (xs:=allL digs n) (fun rest H₄ L₄=> L₄= [(b9,true,.cells ⟨(k.val A lc B tc).cells.toList⟩ 113 (0,0)),(b8,true,.cells ⟨[.int .i64 0]⟩ 29 (0,0)),(b7,true,.cells ⟨[.bool false]⟩ 4 (0,0)),(b6,true,.cells ⟨[strV []]⟩ 9 (0,0)),(b5,true,.cells ⟨[.bool sf]⟩ 4 (0,0)),(b3,true,.cells ⟨(k.val A lc B tc).cells.toList⟩ 25 (0,0))]
         ∧k.spare n sf=rest.find? (k.spareOk sf)∧CapA n digs a1 a2 H₄∧H₁.le H₄)
         (fun j H₄ L₄=> ∃x,L₄= [(b9,true,.cells ⟨(k.val A lc B tc).cells.toList⟩ 113 (0,0)),(b8,true,.cells ⟨[.int .i64 0]⟩ 29 (0,0)),(b7,true,.cells ⟨[.bool true]⟩ 4 (0,0)),(b6,true,.cells ⟨[strV x]⟩ 9 (0,0)),(b5,true,.cells ⟨[.bool sf]⟩ 4 (0,0)),(b3,true,.cells ⟨(k.val A lc B tc).cells.toList⟩ 25 (0,0))]∧j=.ret∧k.spare n sf=some x∧H₁.le H₄)
         rfl rfl rfl rfl hit (fun _ _=> CapA.le _ _) (fun _ _ _ ⟨_,_,h,_⟩=> h) rfl (fun _ _=> rfl) ⟨rfl,rfl,hcap,View.le_refl _⟩ ?_ ?_ ?_
     · rintro r x rest _ l tmps asg bdy H₄ _ hx ⟨rfl,q2,q3,q4⟩ Q St1 cc1 cs1 hK1 q q'
       have hle4:=View.le_trans hle1 q4
       obtain⟨hxl,hxd⟩:=mem_allL hx
       have hxdig:x.all dig=true:=List.all_eq_true.2 fun y hy=> List.all_eq_true.1 digs_dig y (hxd y hy)
       have hcl:=fun(H':View) (h':H₄.le H')=> clashes_c M H' k A lc (hk.rows.le (View.le_trans hle4 h')) hn.nl x
       have hsf:=fun(H':View) (h':H₄.le H')=> safe_c M H' k A lc B tc (hk.le (View.le_trans hle4 h')) hn ha x hxdig (by omega)
       rw[List.find?_cons] at q2
       cases h1:k.clash x with
       | true=>
         have e1:k.spareOk sf x=false:=by unfold Bk.spareOk;rw[h1];rfl
         rw[e1] at q2
         rw[h1] at hcl
         refine .r ?_
         refine .g ?_
         refine .done ?_
         refine Tc.beginRound (i:=0) rfl rfl rfl ?_
         refine .block (.sr ?_)
         refine .x .fa ?_
         refine .x (.ld 7) ?_
         refine .m ?_
         refine .c rfl rfl rfl rfl (fun H hs=> .f ca117 rfl (hcl H hs.base)) ?_
         refine .x .nt ?_
         refine .m ?_
         refine .sk ?_
         refine .sk ?_
         refine .sk ?_
         refine To.skippedU rfl (by decide) rfl ?_
         refine To.skippedU rfl (by decide) rfl ?_
         refine To.skippedU rfl (by decide) rfl ?_
         refine .sk ?_
         refine .x .pk ?_
         refine .done (.ff rfl (.skip (.inBlock ?_)))
         refine Tc.leaveRound hK1 (i:=0) rfl (.inl ⟨rfl,rfl⟩) (fun H' hs=> q H' H₄ _ hs ⟨rfl,q2,q3,q4⟩)
       | false=>
         rw[h1] at hcl
         cases sf with
         | false=>
           have e1:k.spareOk false x=true:=by unfold Bk.spareOk;rw[h1];rfl
           rw[e1] at q2
           refine .r ?_
           refine .g ?_
           refine .done ?_
           refine Tc.beginRound (i:=0) rfl rfl rfl ?_
           refine .block (.sr ?_)
           refine .x .fa ?_
           refine .x (.ld 7) ?_
           refine .m ?_
           refine .c rfl rfl rfl rfl (fun H hs=> .f ca117 rfl (hcl H hs.base)) ?_
           refine .x .nt ?_
           refine .m ?_
           refine .x (.ld 6) ?_
           refine .x .nt ?_
           refine .m ?_
           refine .sk ?_
           refine .sk ?_
           refine .sk ?_
           refine .x .pk ?_
           refine .x .pk ?_
           refine .done (.tt rfl (.sr ?_))
           refine .m ?_
           refine .e (.st 5 (zz:=?_))
           refine .e (.st 4 (zz:=?_))
           refine .e (.st 3 (zz:=?_))
           refine .done ?_
           refine Tc.leaveRound hK1 (i:=0) rfl (.inr (.inl ⟨_,rfl,rfl⟩)) (fun H' hs=> q' H' H₄ _ _ hs ⟨x,rfl,rfl,q2,q4⟩)
         | true=>
           cases h2:k.safe x with
           | true=>
             have e1:k.spareOk true x=true:=by unfold Bk.spareOk;rw[h1,h2];rfl
             rw[e1] at q2
             rw[h2] at hsf
             refine .r ?_
             refine .g ?_
             refine .done ?_
             refine Tc.beginRound (i:=0) rfl rfl rfl ?_
             refine .block (.sr ?_)
             refine .x .fa ?_
             refine .x (.ld 7) ?_
             refine .m ?_
             refine .c rfl rfl rfl rfl (fun H hs=> .f ca117 rfl (hcl H hs.base)) ?_
             refine .x .nt ?_
             refine .m ?_
             refine .x (.ld 6) ?_
             refine .x .nt ?_
             refine .m ?_
             refine .x (.ld 2) ?_
             refine .m ?_
             refine .c rfl rfl rfl rfl (fun H hs=> .f ca118 rfl (hsf H hs.base)) ?_
             refine .x .pk ?_
             refine .x .pk ?_
             refine .done (.tt rfl (.sr ?_))
             refine .m ?_
             refine .e (.st 5 (zz:=?_))
             refine .e (.st 4 (zz:=?_))
             refine .e (.st 3 (zz:=?_))
             refine .done ?_
             refine Tc.leaveRound hK1 (i:=0) rfl (.inr (.inl ⟨_,rfl,rfl⟩)) (fun H' hs=> q' H' H₄ _ _ hs ⟨x,rfl,rfl,q2,q4⟩)
           | false=>
             have e1:k.spareOk true x=false:=by unfold Bk.spareOk;rw[h1,h2];rfl
             rw[e1] at q2
             rw[h2] at hsf
             refine .r ?_
             refine .g ?_
             refine .done ?_
             refine Tc.beginRound (i:=0) rfl rfl rfl ?_
             refine .block (.sr ?_)
             refine .x .fa ?_
             refine .x (.ld 7) ?_
             refine .m ?_
             refine .c rfl rfl rfl rfl (fun H hs=> .f ca117 rfl (hcl H hs.base)) ?_
             refine .x .nt ?_
             refine .m ?_
             refine .x (.ld 6) ?_
             refine .x .nt ?_
             refine .m ?_
             refine .x (.ld 2) ?_
             refine .m ?_
             refine .c rfl rfl rfl rfl (fun H hs=> .f ca118 rfl (hsf H hs.base)) ?_
             refine .x .pk ?_
             refine .x .pk ?_
             refine .done (.ff rfl (.skip (.inBlock ?_)))
             refine Tc.leaveRound hK1 (i:=0) rfl (.inl ⟨rfl,rfl⟩) (fun H' hs=> q H' H₄ _ hs ⟨rfl,q2,q3,q4⟩)
     · rintro r H₄ _ ⟨rfl,q2,q3,q4⟩
       have e1:k.spare n sf=none:=q2
       rw[ev,e1] at hK
       refine .inBlock (.sr ?_)
       refine .e (.st 4 (zz:=?_))
       refine .e (.st 3 (zz:=?_))
       refine .e (.st 2 (zz:=?_))
       refine .done ?_
       refine Tc.retD (E:=en) (i:=0) hK Tryz.func50 Tryz.results50 (vs:= [_,_,_]) rfl (by refine⟨⟨4,_,_,_,_,_,_,_,rfl,rfl,rfl,rfl⟩,?_⟩;refine⟨⟨3,_,_,_,_,_,_,_,rfl,rfl,rfl,rfl⟩,?_⟩;refine⟨⟨2,_,_,_,_,_,_,_,rfl,rfl,rfl,rfl⟩,?_⟩;exact trivial) ?_
       exact fun H' hs=> ⟨View.le_trans hle1 (View.le_trans q4 hs.base),rfl⟩
     · rintro r j H₄ _ ⟨x,rfl,rfl,q2,q4⟩
       rw[ev,q2] at hK
       refine Tc.retD (E:=en) (i:=0) hK Tryz.func50 Tryz.results50 (vs:= [_,_,_]) rfl (by refine⟨⟨4,_,_,_,_,_,_,_,rfl,rfl,rfl,rfl⟩,?_⟩;refine⟨⟨3,_,_,_,_,_,_,_,rfl,rfl,rfl,rfl⟩,?_⟩;refine⟨⟨2,_,_,_,_,_,_,_,rfl,rfl,rfl,rfl⟩,?_⟩;exact trivial) ?_
       exact fun H' hs=> ⟨View.le_trans hle1 (View.le_trans q4 hs.base),rfl⟩
   · have ev:k.spareV z sf=spare3 [] false 1:=by
       unfold Bk.spareV
       rw[if_neg (by simp[ha]),if_pos c1]
     have hbt:=fun(H':View)=> between_is M H' z 1 3 false (decide_eq_false c1)
     rw[ev]
     refine CallT.enter (vs:= [k.val A lc B tc,.int .i64 z,.bool sf]) Tryz.func50 rfl Tryz.ntmps50 (Nat.le_of_ble_eq_true rfl) (SymSt.nil _) fun St c cs hK=> ?_
     refine .sr ?_
     refine .e (.bx (zz:=fun b3=> ?_))
     refine .e (.bx (zz:=fun b5=> ?_))
     refine .e (.al (zz:=fun b6=> ?_))
     refine .e (.al (zz:=fun b7=> ?_))
     refine .e (.al (zz:=fun b8=> ?_))
     refine .done (.sr ?_)
     refine .x (.ld 4) ?_
     refine .c rfl rfl rfl rfl (fun H hs=> .f ca81 rfl (hop H hs.base)) ?_
     refine .m ?_
     refine .x .et ?_
     refine .x .et ?_
     refine .e (.al (zz:=fun b9=> ?_))
     refine .e (.st 0 (zz:=?_))
     refine .e (.st 1 (zz:=?_))
     refine .done (.seq (.block (.sr ?_)))
     refine .x (.ld 1) ?_
     refine .i ?_ (z:=neq_f (by omega))
     refine .g ?_
     refine .done (.ff rfl (.sr ?_))
     refine .m ?_
     refine .c rfl rfl rfl rfl (fun H hs=> .f ca82 rfl (hbt H)) ?_
     refine .x .nt ?_
     refine .g ?_
     refine .done (.tt rfl (.sr ?_))
     refine .e (.st 3 (zz:=?_))
     refine .e (.st 2 (zz:=?_))
     refine .e (.st 1 (zz:=?_))
     refine .done ?_
     refine Tc.retN (E:=en) hK Tryz.func50 Tryz.results50 (vs:= [_,_,_]) (by refine⟨⟨3,_,_,_,_,_,_,_,rfl,rfl,rfl,rfl⟩,?_⟩;refine⟨⟨2,_,_,_,_,_,_,_,rfl,rfl,rfl,rfl⟩,?_⟩;refine⟨⟨1,_,_,_,_,_,_,_,rfl,rfl,rfl,rfl⟩,?_⟩;exact trivial) ?_
     exact fun H' hs=> ⟨hs.base,rfl⟩
 · have ev:k.spareV z sf=spare3 [] false k.alarm:=if_pos ha
   rw[ev]
   refine CallT.enter (vs:= [k.val A lc B tc,.int .i64 z,.bool sf]) Tryz.func50 rfl Tryz.ntmps50 (Nat.le_of_ble_eq_true rfl) (SymSt.nil _) fun St c cs hK=> ?_
   refine .sr ?_
   refine .e (.bx (zz:=fun b3=> ?_))
   refine .e (.bx (zz:=fun b5=> ?_))
   refine .e (.al (zz:=fun b6=> ?_))
   refine .e (.al (zz:=fun b7=> ?_))
   refine .e (.al (zz:=fun b8=> ?_))
   refine .done (.sr ?_)
   refine .x (.ld 4) ?_
   refine .c rfl rfl rfl rfl (fun H hs=> .f ca81 rfl (open_alarm M H k A lc B tc true (hk.le hs.base) hn (glob_le hG hs.base) ha)) ?_
   refine .m ?_
   refine .x .et ?_
   refine .x .et ?_
   refine .e (.al (zz:=fun b9=> ?_))
   refine .e (.st 0 (zz:=?_))
   refine .e (.st 1 (zz:=?_))
   refine .done (.seq (.block (.sr ?_)))
   refine .x (.ld 1) ?_
   refine .i ?_ (z:=neq_t (by omega))
   refine .g ?_
   refine .done (.tt rfl (.seq ?_))
   refine Tc.drE [3] [1,2,3] [2,3] mixed rfl ?_
   refine .q 0 rfl (.ld 1) ?_
   refine Ta.each [1] (by kernel_rfl) rfl ⟨TaOp.mk rfl rfl rfl (.st 3 (zz:=⟨S2.mk (by apply List.Sublist.cons_cons;apply List.Sublist.cons;apply List.Sublist.cons;apply List.Sublist.cons;exact List.Sublist.refl _) (.inr (by apply List.Sublist.cons_cons;apply List.Sublist.cons_cons;apply List.Sublist.cons;apply List.Sublist.cons;exact List.Sublist.refl _)),?_⟩)),trivial⟩
   refine Ta.each [2] (by kernel_rfl) rfl ⟨TaOp.mk rfl rfl rfl (.st 2 (zz:=⟨S2.mk (by apply List.Sublist.cons_cons;apply List.Sublist.cons;apply List.Sublist.cons;apply List.Sublist.cons;exact List.Sublist.refl _) (.inr (by apply List.Sublist.cons_cons;apply List.Sublist.cons_cons;apply List.Sublist.cons;apply List.Sublist.cons;exact List.Sublist.refl _)),?_⟩)),trivial⟩
   refine Ta.each [3] (by kernel_rfl) rfl ⟨TaOp.mk rfl rfl rfl (.st 1 (zz:=⟨S2.mk (by apply List.Sublist.cons_cons;apply List.Sublist.cons;apply List.Sublist.cons;apply List.Sublist.cons;exact List.Sublist.refl _) (.inl (by kernel_rfl)),?_⟩)),trivial⟩
   refine Ta.done (by kernel_rfl) ?_
   refine Tc.retN (E:=en) hK Tryz.func50 Tryz.results50 (vs:= [_,_,_]) (by refine⟨⟨3,_,_,_,_,_,_,_,rfl,rfl,rfl,rfl⟩,?_⟩;refine⟨⟨2,_,_,_,_,_,_,_,rfl,rfl,rfl,rfl⟩,?_⟩;refine⟨⟨1,_,_,_,_,_,_,_,rfl,rfl,rfl,rfl⟩,?_⟩;exact trivial) ?_
   exact fun H' hs=> ⟨hs.base,rfl⟩
end
end Go.Proofs.YtdnfdeplcjaonaaGreatDoor
end
section
namespace Go.RL
open Go.Conc
section
variable {P:Program}{E:Env P}{M:Md P}{n:Nat}{H₀:View}{R:Rg}{L:Bl}{o:Oper}{K:Rg→Bl→Prop}{d:Nat}
theorem Gl.bl_nodup {e:TypeId}{sz:Nat}(g:Gl e sz):(g.bl.map (·.1)).Nodup:=by
 unfold Gl.bl
 split <;> simp
theorem Or.appendK(k:Nat){cl:Go.Call}{x y:Operand}{t xt e:TypeId}{sz m:Nat}{yv:Value}{new:List Value}{g:Gl e sz}{r re rx:TyRow}{ex:TypeId}(hop:o.op=.call cl)(hcl:cl.callee=.builtin .append)(hat:cl.argTypes=#[t,xt])(har:cl.args=#[x,y])
   (hx:evR R x=some g.val) (hy:evR R y=some yv) (ht:E.ty t=some r) (hds:r.ds=.slice e) (hre:E.ty e=some re) (hsz:re.size=sz) (hzs:Nat.beq re.zero.cells.toList.length sz=true) (hxt:E.ty xt=some rx) (hex:rx.ds=.slice ex) (hby:Nat.ble re.bytes 1000=true)
   (hL:L.drop k=g.bl) (hsrc:∀H,SymSt H₀ L H→SrcAt H sz yv m new) (hs:new.all single=true) (hm:g.n+m≤1000000000) (hd:o.dst=some d) (hn:d<n)
   (hk1:∀g':Gl e sz,g'.n=g.n+m→g'.l=g.l++new→g'.blk=g.blk→g'.cap=g.cap→K ((d,g'.val)::R) (L.take k++g'.bl))
   (hk2:∀g':Gl e sz,g'.n=g.n+m→g'.l=g.l++new→K ((d,g'.val)::R) (L++g'.bl)):Or M n H₀ R L o K:=
 .val hd hn fun H tmps hst hr=> by
   have hLe:L=L.take k++g.bl:=by rw[←hL,List.take_append_drop]
   have hst0:=hst
   unfold execOp;rw[hop]
   simp only[resolve,hcl,hat,har]
   have hm':Array.map (evT tmps) #[x,y]=#[g.val,yv]:=by simp[hr.ev hx,hr.ev hy]
   rw[hm']
   rw[hLe] at hst
   refine vwp_bind (Builtin.append_ #[t,xt] o.type #[g.val,yv]) _ ?_
   refine vwp_appendC ht hds hre hsz (Nat.eq_of_beq_eq_true hzs) ⟨rx,ex,hxt,hex⟩ (Nat.le_of_ble_eq_true hby) hm (fun z hz=> hst.at_ z (by simp[hz])) (hsrc H hst0) hs fun g' H' h1 h2 h3 h4 h5=> ?_
   cases hb:g'.blk with
   | none=>
     have hbl:g'.bl= []:=by unfold Gl.bl;rw[hb]
     have hHH:H'=H:=funext fun c=> h4 c (fun b hbb=> by rw[hb] at hbb;cases hbb)
     subst hHH
     refine⟨_,rfl,L,hst0,?_⟩
     have:=hk2 g' h1 h2
     rwa [hbl,List.append_nil] at this
   | some b=>
     rcases h3 b hb with ⟨h6,h7⟩|h6
     · exact⟨_,rfl,_,hst.grown (fun b hbb=> (h3 b hbb).imp And.left id) h4 h5,hk1 g' h1 h2 (hb.trans h6.symm) h7⟩
     · have hbl:g'.bl= [(b,true,.cells ⟨g'.l++g'.junk⟩ e (0,0))]:=by unfold Gl.bl;rw[hb]
       have hle:H.le H':=fun c z hc=> by
         rw[h4 c (fun b' hb'=> by
           rw[hb] at hb'
           cases hb'
           rintro rfl
           rw[h6] at hc
           cases hc)]
         exact hc
       refine⟨_,rfl,_,hst0.more hle g'.bl_nodup (fun y hy=> ⟨h5 y hy,?_⟩),hk2 g' h1 h2⟩
       rw[hbl,List.mem_singleton] at hy
       subst hy
       exact h6
end
end Go.RL
end
section
namespace Go.Proofs.YtdnfdeplcjaonaaGreatDoor
open Go.RL
set_option maxRecDepth 10000
set_option maxHeartbeats 16000000
def StrsAt(H:View)(F:Option Addr)(n:Nat)(x:Nat→List UInt8):Prop:=
 n=0∨∃b o f gs gt gz,F=some ⟨b,o,none⟩∧H b=some (f,.cells ⟨gs⟩ gt gz)∧∀j:Nat,j<n→ldL false 1 gs (o+(j:Int).toNat*1)=some (strV (x j))
theorem StrsAt.le {H H':View}{F:Option Addr}{n:Nat}{x:Nat→List UInt8}(h:StrsAt H F n x)(k:H.le H'):StrsAt H' F n x:=
 h.imp id fun⟨b,o,f,gs,gt,gz,h1,h2,h3⟩=> ⟨b,o,f,gs,gt,gz,h1,k _ _ h2,h3⟩
def weightOk(x:Int):Bool:=decide (0≤x∧x≤99)
section
variable(M:Md Tryz.prog)(H:View)
theorem IndexI_c(F:Option Addr)(n fc:Nat)(x:Nat→Int)(hF:FreeAt H F n x)(hn:n≤1000000)(fv:Value)(p:Nat→Bool)(hp:∀j,j<n→∀H',H.le H'→FnT M fv [.int .i64 (x j)] H' fun v H''=> H'.le H''∧v=.bool (p j)):
   CallT M 187 #[.slice F n fc,fv] H (fun v H'=> H.le H'∧v=.int .i64 (firstI (firstTo p n))):=by
 refine CallT.enter (vs:= [.slice F n fc,fv]) Tryz.func187 rfl Tryz.ntmps187 (Nat.le_of_ble_eq_true rfl) (SymSt.nil _) fun St c cs hK=> ?_
 refine .sr ?_
 refine .g ?_
 refine .done (.seq (.sr ?_))
 refine .m ?_
 refine .x .ln ?_
 refine .m ?_
 refine .done (.block ?_)
 refine Tc.db (Tc.loopInv (σ:= { j:Nat//j≤n∧firstTo p j=none }) (fun j=> ([(0,.slice F n fc),(1,fv),(7,.int .i64 (n:Nat)),(8,.int .i64 (j.1:Nat))],[])) (fun j=> n-j.1) ?_ ⟨0,Nat.zero_le _,rfl⟩)
 rintro⟨j,hj,hno⟩ ih
 show Tc M St _ _ _ _ [(0,.slice F n fc),(1,fv),(7,.int .i64 (n:Nat)),(8,.int .i64 (j:Nat))] [] _ _
 by_cases c1:j=n
 · subst c1
   rw[hno] at hK
   refine .sr ?_
   refine .i ?_ (z:=lss_f (by omega))
   refine .done (.seq (.ff rfl (.exit rfl (.sr ?_))))
   refine .g ?_
   refine .done ?_
   refine .rt hK Tryz.func187 Tryz.results187 [_] ?_
   exact fun H' hs=> ⟨hs.base,rfl⟩
 · have c2:j<n:=by omega
   obtain h0|⟨ab,ao,f,gs,gt,gz,rfl,hb,hl⟩:=hF
   · omega
   have f1:=hl j c2
   have hpj:=hp j c2
   cases hpp:p j with
   | true=>
     rw[hpp] at hpj
     have e:firstTo p n=some j:=firstTo_stays (j:=j+1) (by simp[firstTo,hno,hpp]) _ (by omega)
     rw[e] at hK
     refine .sr ?_
     refine .i ?_ (z:=lss_t (by omega))
     refine .done (.seq (.tt rfl (.skip (.seq (.block (.sr ?_))))))
     refine .m ?_
     refine .g ?_
     refine .done (.sr ?_)
     refine .m ?_
     refine .m ?_
     refine .m ?_
     refine .x .ia ?_
     refine .x .l0 ?_
     refine .c rfl rfl rfl rfl (fun H hs=> hpj H hs.base) ?_
     refine .done (.tt rfl (.sr ?_))
     refine .m ?_
     refine .g ?_
     refine .done ?_
     refine .rt hK Tryz.func187 Tryz.results187 [_] ?_
     exact fun H' hs=> ⟨hs.base,rfl⟩
   | false=>
     rw[hpp] at hpj
     refine .sr ?_
     refine .i ?_ (z:=lss_t (by omega))
     refine .done (.seq (.tt rfl (.skip (.seq (.block (.sr ?_))))))
     refine .m ?_
     refine .g ?_
     refine .done (.sr ?_)
     refine .m ?_
     refine .m ?_
     refine .m ?_
     refine .x .ia ?_
     refine .x .l0 ?_
     refine .c rfl rfl rfl rfl (fun H hs=> hpj H hs.base) ?_
     refine .done (.ff rfl (.skip (.inBlock (.r ?_))))
     refine .i ?_ (z:=add_in (by omega) (by omega))
     refine .m ?_
     refine .done ?_
     exact Tc.db (ih ⟨j+1,by omega,by simp[firstTo,hno,hpp]⟩ (by simp only;omega))
theorem ContainsI_c(F:Option Addr)(n fc:Nat)(x:Nat→Int)(hF:FreeAt H F n x)(hn:n≤1000000)(fv:Value)(p:Nat→Bool)(hp:∀j,j<n→∀H',H.le H'→FnT M fv [.int .i64 (x j)] H' fun v H''=> H'.le H''∧v=.bool (p j)):
   CallT M 120 #[.slice F n fc,fv] H (fun v H'=> H.le H'∧v=.bool (firstTo p n).isSome):=by
 have hi:=fun(H':View) (h':H.le H')=> IndexI_c M H' F n fc x (hF.le h') hn fv p (fun j hj H'' h''=> hp j hj H'' (View.le_trans h' h''))
 cases hq:firstTo p n with
 | none=>
   rw[hq] at hi
   have e:firstI none= -1:=rfl
   rw[e] at hi
   refine CallT.enter (vs:= [.slice F n fc,fv]) Tryz.func120 rfl Tryz.ntmps120 (Nat.le_of_ble_eq_true rfl) (SymSt.nil _) fun St c cs hK=> ?_
   refine .sr ?_
   refine .g ?_
   refine .done (.sr ?_)
   refine .m ?_
   refine .m ?_
   refine .c rfl rfl rfl rfl (fun H hs=> .f ca187 rfl (hi H hs.base)) ?_
   refine .i ?_ (z:=geq_f (by omega))
   refine .g ?_
   refine .done ?_
   refine .rt hK Tryz.func120 Tryz.results120 [_] ?_
   exact fun H' hs=> ⟨hs.base,rfl⟩
 | some j=>
   rw[hq] at hi
   have e:firstI (some j)=(j:Nat):=rfl
   rw[e] at hi
   refine CallT.enter (vs:= [.slice F n fc,fv]) Tryz.func120 rfl Tryz.ntmps120 (Nat.le_of_ble_eq_true rfl) (SymSt.nil _) fun St c cs hK=> ?_
   refine .sr ?_
   refine .g ?_
   refine .done (.sr ?_)
   refine .m ?_
   refine .m ?_
   refine .c rfl rfl rfl rfl (fun H hs=> .f ca187 rfl (hi H hs.base)) ?_
   refine .i ?_ (z:=geq_t (by omega))
   refine .g ?_
   refine .done ?_
   refine .rt hK Tryz.func120 Tryz.results120 [_] ?_
   exact fun H' hs=> ⟨hs.base,rfl⟩
theorem IndexS_c(F:Option Addr)(n fc:Nat)(x:Nat→List UInt8)(hF:StrsAt H F n x)(hn:n≤1000000)(fv:Value)(p:Nat→Bool)(hp:∀j,j<n→∀H',H.le H'→FnT M fv [strV (x j)] H' fun v H''=> H'.le H''∧v=.bool (p j)):
   CallT M 188 #[.slice F n fc,fv] H (fun v H'=> H.le H'∧v=.int .i64 (firstI (firstTo p n))):=by
 refine CallT.enter (vs:= [.slice F n fc,fv]) Tryz.func188 rfl Tryz.ntmps188 (Nat.le_of_ble_eq_true rfl) (SymSt.nil _) fun St c cs hK=> ?_
 refine .sr ?_
 refine .g ?_
 refine .done (.seq (.sr ?_))
 refine .m ?_
 refine .x .ln ?_
 refine .m ?_
 refine .done (.block ?_)
 refine Tc.db (Tc.loopInv (σ:= { j:Nat//j≤n∧firstTo p j=none }) (fun j=> ([(0,.slice F n fc),(1,fv),(7,.int .i64 (n:Nat)),(8,.int .i64 (j.1:Nat))],[])) (fun j=> n-j.1) ?_ ⟨0,Nat.zero_le _,rfl⟩)
 rintro⟨j,hj,hno⟩ ih
 show Tc M St _ _ _ _ [(0,.slice F n fc),(1,fv),(7,.int .i64 (n:Nat)),(8,.int .i64 (j:Nat))] [] _ _
 by_cases c1:j=n
 · subst c1
   rw[hno] at hK
   refine .sr ?_
   refine .i ?_ (z:=lss_f (by omega))
   refine .done (.seq (.ff rfl (.exit rfl (.sr ?_))))
   refine .g ?_
   refine .done ?_
   refine .rt hK Tryz.func188 Tryz.results188 [_] ?_
   exact fun H' hs=> ⟨hs.base,rfl⟩
 · have c2:j<n:=by omega
   obtain h0|⟨ab,ao,f,gs,gt,gz,rfl,hb,hl⟩:=hF
   · omega
   have f1:=hl j c2
   have hpj:=hp j c2
   cases hpp:p j with
   | true=>
     rw[hpp] at hpj
     have e:firstTo p n=some j:=firstTo_stays (j:=j+1) (by simp[firstTo,hno,hpp]) _ (by omega)
     rw[e] at hK
     refine .sr ?_
     refine .i ?_ (z:=lss_t (by omega))
     refine .done (.seq (.tt rfl (.skip (.seq (.block (.sr ?_))))))
     refine .m ?_
     refine .g ?_
     refine .done (.sr ?_)
     refine .m ?_
     refine .m ?_
     refine .m ?_
     refine .x .ia ?_
     refine .x .l0 ?_
     refine .c rfl rfl rfl rfl (fun H hs=> hpj H hs.base) ?_
     refine .done (.tt rfl (.sr ?_))
     refine .m ?_
     refine .g ?_
     refine .done ?_
     refine .rt hK Tryz.func188 Tryz.results188 [_] ?_
     exact fun H' hs=> ⟨hs.base,rfl⟩
   | false=>
     rw[hpp] at hpj
     refine .sr ?_
     refine .i ?_ (z:=lss_t (by omega))
     refine .done (.seq (.tt rfl (.skip (.seq (.block (.sr ?_))))))
     refine .m ?_
     refine .g ?_
     refine .done (.sr ?_)
     refine .m ?_
     refine .m ?_
     refine .m ?_
     refine .x .ia ?_
     refine .x .l0 ?_
     refine .c rfl rfl rfl rfl (fun H hs=> hpj H hs.base) ?_
     refine .done (.ff rfl (.skip (.inBlock (.r ?_))))
     refine .i ?_ (z:=add_in (by omega) (by omega))
     refine .m ?_
     refine .done ?_
     exact Tc.db (ih ⟨j+1,by omega,by simp[firstTo,hno,hpp]⟩ (by simp only;omega))
theorem ContainsS_c(F:Option Addr)(n fc:Nat)(x:Nat→List UInt8)(hF:StrsAt H F n x)(hn:n≤1000000)(fv:Value)(p:Nat→Bool)(hp:∀j,j<n→∀H',H.le H'→FnT M fv [strV (x j)] H' fun v H''=> H'.le H''∧v=.bool (p j)):
   CallT M 125 #[.slice F n fc,fv] H (fun v H'=> H.le H'∧v=.bool (firstTo p n).isSome):=by
 have hi:=fun(H':View) (h':H.le H')=> IndexS_c M H' F n fc x (hF.le h') hn fv p (fun j hj H'' h''=> hp j hj H'' (View.le_trans h' h''))
 cases hq:firstTo p n with
 | none=>
   rw[hq] at hi
   have e:firstI none= -1:=rfl
   rw[e] at hi
   refine CallT.enter (vs:= [.slice F n fc,fv]) Tryz.func125 rfl Tryz.ntmps125 (Nat.le_of_ble_eq_true rfl) (SymSt.nil _) fun St c cs hK=> ?_
   refine .sr ?_
   refine .g ?_
   refine .done (.sr ?_)
   refine .m ?_
   refine .m ?_
   refine .c rfl rfl rfl rfl (fun H hs=> .f ca188 rfl (hi H hs.base)) ?_
   refine .i ?_ (z:=geq_f (by omega))
   refine .g ?_
   refine .done ?_
   refine .rt hK Tryz.func125 Tryz.results125 [_] ?_
   exact fun H' hs=> ⟨hs.base,rfl⟩
 | some j=>
   rw[hq] at hi
   have e:firstI (some j)=(j:Nat):=rfl
   rw[e] at hi
   refine CallT.enter (vs:= [.slice F n fc,fv]) Tryz.func125 rfl Tryz.ntmps125 (Nat.le_of_ble_eq_true rfl) (SymSt.nil _) fun St c cs hK=> ?_
   refine .sr ?_
   refine .g ?_
   refine .done (.sr ?_)
   refine .m ?_
   refine .m ?_
   refine .c rfl rfl rfl rfl (fun H hs=> .f ca188 rfl (hi H hs.base)) ?_
   refine .i ?_ (z:=geq_t (by omega))
   refine .g ?_
   refine .done ?_
   refine .rt hK Tryz.func125 Tryz.results125 [_] ?_
   exact fun H' hs=> ⟨hs.base,rfl⟩
theorem weightBad_c(x:Int):CallT M 121 #[.int .i64 x] H (fun v H'=> H.le H'∧v=.bool (!weightOk x)):=by
 cases h:weightOk x with
 | true=>
   refine CallT.enter (vs:= [.int .i64 x]) Tryz.func121 rfl Tryz.ntmps121 (Nat.le_of_ble_eq_true rfl) (SymSt.nil _) fun St c cs hK=> ?_
   refine .sr ?_
   refine .g ?_
   refine .done (.sr ?_)
   refine .m ?_
   refine .c rfl rfl rfl rfl (fun H hs=> .f ca82 rfl (between_is M H x 0 99 true h)) ?_
   refine .x .nt ?_
   refine .g ?_
   refine .done ?_
   refine .rt hK Tryz.func121 Tryz.results121 [_] ?_
   exact fun H' hs=> ⟨hs.base,rfl⟩
 | false=>
   refine CallT.enter (vs:= [.int .i64 x]) Tryz.func121 rfl Tryz.ntmps121 (Nat.le_of_ble_eq_true rfl) (SymSt.nil _) fun St c cs hK=> ?_
   refine .sr ?_
   refine .g ?_
   refine .done (.sr ?_)
   refine .m ?_
   refine .c rfl rfl rfl rfl (fun H hs=> .f ca82 rfl (between_is M H x 0 99 false h)) ?_
   refine .x .nt ?_
   refine .g ?_
   refine .done ?_
   refine .rt hK Tryz.func121 Tryz.results121 [_] ?_
   exact fun H' hs=> ⟨hs.base,rfl⟩
theorem near_c(s:List UInt8)(b:Nat)(f:Bool)(hb:H b=some (f,.cells ⟨[strV s]⟩ 9 (0,0)))(o:List UInt8):
   CallT M 126 #[strV o,.pointer (some ⟨b,0,none⟩)] H (fun v H'=> H.le H'∧v=.bool (clash1 o s)):=by
 cases h1:begins o s with
 | true=>
   have e:clash1 o s=true:=by unfold clash1;rw[h1];rfl
   rw[e]
   refine CallT.enter (vs:= [strV o,.pointer (some ⟨b,0,none⟩)]) Tryz.func126 rfl Tryz.ntmps126 (Nat.le_of_ble_eq_true rfl) (SymSt.nil _) fun St c cs hK=> ?_
   refine .sr ?_
   refine .g ?_
   refine .done (.sr ?_)
   refine .m ?_
   refine .x .l0 ?_
   refine .c rfl rfl rfl rfl (fun H hs=> .f ca127 rfl (HasPrefix_is M H o s true h1)) ?_
   refine .m ?_
   refine .sk ?_
   refine .sk ?_
   refine .sk ?_
   refine .x .pk ?_
   refine .g ?_
   refine .done ?_
   refine .rt hK Tryz.func126 Tryz.results126 [_] ?_
   exact fun H' hs=> ⟨hs.base,rfl⟩
 | false=>
   have e:clash1 o s=begins s o:=by unfold clash1;rw[h1];rfl
   rw[e]
   refine CallT.enter (vs:= [strV o,.pointer (some ⟨b,0,none⟩)]) Tryz.func126 rfl Tryz.ntmps126 (Nat.le_of_ble_eq_true rfl) (SymSt.nil _) fun St c cs hK=> ?_
   refine .sr ?_
   refine .g ?_
   refine .done (.sr ?_)
   refine .m ?_
   refine .x .l0 ?_
   refine .c rfl rfl rfl rfl (fun H hs=> .f ca127 rfl (HasPrefix_is M H o s false h1)) ?_
   refine .m ?_
   refine .x .l0 ?_
   refine .m ?_
   refine .c rfl rfl rfl rfl (fun H hs=> .f ca127 rfl (HasPrefix_c M H s o)) ?_
   refine .x .pk ?_
   refine .g ?_
   refine .done ?_
   refine .rt hK Tryz.func126 Tryz.results126 [_] ?_
   exact fun H' hs=> ⟨hs.base,rfl⟩
end
end Go.Proofs.YtdnfdeplcjaonaaGreatDoor
end
section
namespace Go.Proofs.YtdnfdeplcjaonaaGreatDoor
open Go.RL
set_option maxRecDepth 10000
set_option maxHeartbeats 16000000
def strsV(l:List (List UInt8)):List Value:=l.map strV
theorem strsV_len(l:List (List UInt8)):(strsV l).length=l.length:=by simp[strsV]
theorem strsV_app(l m:List (List UInt8)):strsV (l++m)=strsV l++strsV m:=by simp[strsV]
theorem strsV_single(l:List (List UInt8)):(strsV l).all single=true:=by
 rw[List.all_eq_true]
 intro x hx
 obtain⟨s,_,rfl⟩:=List.mem_map.1 hx
 rfl
def allB2(many:Nat)(dg:List UInt8)(s: { p:Nat×Nat//p.1≠p.2 }):Bl:= [(s.1.1,true,.cells ⟨[.int .i64 (many:Nat)]⟩ 3 (0,0)),(s.1.2,true,.cells ⟨[strV dg]⟩ 9 (0,0))]
theorem allB2_nodup(many:Nat)(dg:List UInt8)(s: { p:Nat×Nat//p.1≠p.2 }):((allB2 many dg s).map (·.1)).Nodup:=by
 obtain⟨⟨a,b⟩,h⟩:=s
 simp only[allB2,List.map_cons,List.map_nil,List.nodup_cons,List.mem_singleton,List.not_mem_nil,not_false_eq_true,List.nodup_nil,and_true]
 exact h
section
variable(M:Md Tryz.prog)(H:View)
theorem all_n(many:Nat)(dg:List UInt8):CallT M 116 #[.int .i64 (many:Nat),strV dg] H (fun v H'=> H.le H'∧∃s: { p:Nat×Nat//p.1≠p.2 },v=allF s.1.1 s.1.2∧True∧∀y∈allB2 many dg s,H' y.1=some y.2∧H y.1=none):=by
 refine CallT.enter (vs:= [.int .i64 (many:Nat),strV dg]) Tryz.func116 rfl Tryz.ntmps116 (Nat.le_of_ble_eq_true rfl) (SymSt.nil _) fun St c cs hK=> ?_
 refine .sr ?_
 refine .e (.bx (zz:=fun b2=> ?_))
 refine .e (.bx (zz:=fun b3=> ?_))
 refine .g ?_
 refine .done (.sr ?_)
 refine .x .mf ?_
 refine .g ?_
 refine .done ?_
 refine .rt hK Tryz.func116 Tryz.results116 [_] ?_
 intro H' hs
 have hnd:=hs.nodup
 have hne:b2≠b3:=by
   simp only[List.map_cons,List.map_nil,List.nodup_cons,List.mem_singleton] at hnd
   exact fun e=> hnd.1 e.symm
 refine⟨hs.base,⟨(b2,b3),hne⟩,rfl,trivial,fun y hy=> ?_⟩
 have hy':y=(b2,true,.cells ⟨[.int .i64 (many:Nat)]⟩ 3 (0,0))∨y=(b3,true,.cells ⟨[strV dg]⟩ 9 (0,0)):=by simpa [allB2] using hy
 rcases hy' with rfl|rfl
 · exact⟨hs.get (i:=1) rfl,hs.out _ (List.mem_cons_of_mem _ (List.mem_cons_self ..))⟩
 · exact⟨hs.get (i:=0) rfl,hs.out _ (List.mem_cons_self ..)⟩
def SeqQ(H₁:View)(g:Gl 9 1)(l xs:List (List UInt8))(v:Value)(H3:View):Prop:=
 ∃(g':Gl 9 1) (H₂:View),v=g'.val∧H₁.le H₂∧SymSt H₂ g'.bl H3∧g'.l=strsV (l++xs)∧g'.n=g.n+xs.length
theorem AppendSeq_c(g:Gl 9 1)(l:List (List UInt8))(hg:g.l=strsV l)(hgn:g.n≤100000)(many:Nat)(dg:List UInt8)(hm:many≤1000)(hdg:dg.all dig=true)(hdl:dg.length≤1000)(hal:(allL dg many).length≤100000)(a1 a2:Nat)(H₁ Hc:View)(hcap:CapA many dg a1 a2 H₁)(hsy:SymSt H₁ g.bl Hc):
   CallT M 122 #[g.val,allF a1 a2] Hc (SeqQ H₁ g l (allL dg many)):=by
 have hit:=fun(H':View) (_:CapA many dg a1 a2 H')=> all_it M H' many dg hm hdg hdl a1 a2
 refine CallT.enter (vs:= [g.val,allF a1 a2]) Tryz.func122 rfl Tryz.ntmps122 (Nat.le_of_ble_eq_true rfl) (hsy) fun St c cs hK=> ?_
 refine .sr ?_
 refine .e (.bx (zz:=fun b2=> ?_))
 refine .g ?_
 refine .done (.seq (.sr ?_))
 refine .m ?_
 refine .done (.block ?_)
 refine Tc.db (R':= [(2,.pointer (some ⟨b2,0,none⟩)),(6,allF a1 a2)]) (L':= [(b2,true,.cells ⟨[g.val]⟩ 33 (0,0))]++g.bl) ?_
 refine Tc.rangeL (A:= []) (ts:= [7]) (xs:=allL dg many) (fun rest H₄ L₄=> ∃(g':Gl 9 1) (dn:List (List UInt8)),L₄= [(b2,true,.cells ⟨[g'.val]⟩ 33 (0,0))]++g'.bl∧g'.l=strsV (l++dn)∧g'.n=g.n+dn.length∧dn++rest=allL dg many∧CapA many dg a1 a2 H₄∧H₁.le H₄) (fun _ _ _=> False) rfl rfl rfl rfl hit (fun _ _=> CapA.le _ _) (fun _ _ _ ⟨_,_,_,_,_,_,h,_⟩=> h) rfl (fun _ _=> rfl)
     ⟨g,[],rfl,by rw[List.append_nil];exact hg,rfl,rfl,hcap,View.le_refl _⟩ ?_ ?_ (fun _ _ _ _ h=> h.elim)
 · rintro r x rest _ lp tmps asg bdy H₄ _ hx ⟨g',dn,rfl,q1,q2,q3,q4,q5⟩ Q St1 cc1 cs1 hK1 q q'
   have hdl2:dn.length≤100000:=by
     have:=congrArg List.length q3
     rw[List.length_append] at this
     omega
   refine .r ?_
   refine .g ?_
   refine .done ?_
   refine Tc.beginRound (i:=0) rfl rfl rfl ?_
   refine .block (.r ?_)
   refine .x (.ld 2) ?_
   refine .m ?_
   refine .e (.bs (zz:=fun bs=> ?_))
   refine .e (Or.append (E:=en) 4 rfl rfl rfl rfl rfl rfl rfl rfl rfl rfl rfl rfl rfl rfl rfl (fun H hs=> SrcAt.of (hs.get (i:=0) rfl) (Nat.le_of_ble_eq_true rfl)) rfl (by omega) rfl (by decide) (fun g2 hn2 hl2=> ?_))
   refine .e (.st 3 (zz:=?_))
   refine .done (.inBlock ?_)
   refine Tc.leaveRound hK1 (i:=1) rfl (.inl ⟨rfl,rfl⟩) (fun H' hs=> q H' H₄ _ (hs.less (by apply List.Sublist.cons;exact List.Sublist.refl _)) ⟨g2,dn++[x],rfl,by rw[hl2,q1,←List.append_assoc,strsV_app (l++dn) [x]];rfl,by rw[hn2,q2,List.length_append];rfl,by rw[List.append_assoc];exact q3,q4,q5⟩)
 · rintro r H₄ _ ⟨g',dn,rfl,q1,q2,q3,q4,q5⟩
   rw[List.append_nil] at q3
   subst q3
   refine .inBlock (.sr ?_)
   refine .x (.ld 1) ?_
   refine .g ?_
   refine .done ?_
   refine Tc.retD (E:=en) (i:=0) hK Tryz.func122 Tryz.results122 (vs:= [_]) rfl ⟨rfl,trivial⟩ ?_
   exact fun H' hs=> ⟨g',H₄,rfl,q5,hs.less (by apply List.Sublist.cons;apply List.Sublist.cons;exact List.Sublist.refl _),q1,q2⟩
theorem cloneS_c(a:Option Addr)(m ca:Nat)(l:List Value)(hm:m≤100000)(hs0:SrcAt H 1 (.slice a m ca) m l)(h1:l.all single=true):CallT M 124 #[.slice a m ca] H (fun v H'=> H.le H'∧∃g:Gl 9 1,v=g.val∧(g.l=l∧g.n=m)∧∀x∈g.bl,H' x.1=some x.2∧H x.1=none):=by
 refine CallT.enter (vs:= [.slice a m ca]) Tryz.func124 rfl Tryz.ntmps124 (Nat.le_of_ble_eq_true rfl) (SymSt.nil _) fun St c cs hK=> ?_
 cases a with
 | none=>
   refine .sr ?_
   refine .g ?_
   refine .done (.seq (.sr ?_))
   refine .m ?_
   refine .x (OpV.eqNil (E:=en) rfl rfl rfl rfl rfl) ?_
   refine .done (.tt rfl (.sr ?_))
   refine .g ?_
   refine .done ?_
   refine .rt hK Tryz.func124 Tryz.results124 [_] ?_
   obtain⟨_,h2,h3|⟨b,off,_,_,_,_,_,h3,_⟩⟩:=hs0
   · obtain⟨_,_,_,rfl⟩:=h3
     have:m=0:=by simp at h2;omega
     subst this
     exact fun H' hs'=> ⟨hs'.base,Gl.nil 9 1,rfl,⟨rfl,rfl⟩,by simp[Gl.nil,Gl.bl]⟩
   · cases h3
 | some a=>
   refine .sr ?_
   refine .g ?_
   refine .done (.seq (.sr ?_))
   refine .m ?_
   refine .x (OpV.eqNil (E:=en) rfl rfl rfl rfl rfl) ?_
   refine .done (.ff rfl (.skip (.sr ?_)))
   refine .e (.bs (zz:=fun bs=> ?_))
   refine .m ?_
   refine .e (Or.append (E:=en) (g:=Gl.emp 9 1 bs) 0 rfl rfl rfl rfl rfl rfl rfl rfl rfl rfl rfl rfl rfl rfl rfl (fun H' hs'=> hs0.mono hs'.base) h1 (by show 0+m≤_;omega) rfl (by decide) (fun g' hn hl=> ?_))
   refine .g ?_
   refine .done ?_
   refine .rt hK Tryz.func124 Tryz.results124 [_] ?_
   exact fun H' hs'=> ⟨hs'.base,g',rfl,⟨by rw[hl];rfl,by rw[hn];show 0+m=m;omega⟩,fun x hx=> ⟨hs'.at_ x hx,hs'.out x hx⟩⟩
end
end Go.Proofs.YtdnfdeplcjaonaaGreatDoor
end
section
namespace Go.RL
open Go.Conc
section
variable {P:Program}{M:Md P}{St:View→Goroutine→Prop}{n:Nat}{b:FB}{H₀:View}{cs:List Frame}{R:Rg}{L L₁:Bl}{ds:List Deferred}{k:List Item}{md:Region.Mode}{ops:Array Oper}{S:Array Bool→View→Prop}{fuel:Nat}{listed:Array Bool}
theorem Ta.permL(p:L₁.Perm L)(h:Ta M St n b H₀ cs S md ops fuel listed R L₁ ds k):Ta M St n b H₀ cs S md ops fuel listed R L ds k:=fun H tmps hs=> h H tmps (hs.perm p)
end
end Go.RL
end
section
namespace Go.Proofs.YtdnfdeplcjaonaaGreatDoor
open Go.RL
set_option maxRecDepth 10000
set_option maxHeartbeats 16000000
theorem perm3(A:Bl)(x y z:Nat×Bool×Obj)(B:Bl):(A++(x::y::z::B)).Perm (x::y::z::(A++B)):=by
 refine List.perm_middle.trans (.cons _ ?_)
 refine List.perm_middle.trans (.cons _ ?_)
 exact List.perm_middle
theorem perm4(u v:Nat×Bool×Obj)(A:Bl)(x y z:Nat×Bool×Obj)(B:Bl):((x::y::z::A)++(u::v::B)).Perm (([u,v]++A)++([x,y,z]++B)):=by
 simp only[List.cons_append,List.nil_append]
 have h1:(A++(x::y::z::B)).Perm (x::y::z::(A++B)):=perm3 A x y z B
 have h2:(x::y::z::(A++u::v::B)).Perm (u::v::x::y::z::(A++B)):=by
   have h3:(A++u::v::B).Perm (u::v::(A++B)):=List.perm_middle.trans (.cons _ List.perm_middle)
   have h4:(x::y::z::(A++u::v::B)).Perm (x::y::z::u::v::(A++B)):=.cons _ (.cons _ (.cons _ h3))
   refine h4.trans ?_
   have h5:([x,y,z]++u::v::(A++B)).Perm (u::([x,y,z]++v::(A++B))):=List.perm_middle
   have h6:([x,y,z]++v::(A++B)).Perm (v::([x,y,z]++(A++B))):=List.perm_middle
   exact h5.trans (.cons _ h6)
 exact h2.trans (.cons _ (.cons _ h1.symm))
theorem wmul {a:Int}{t:Nat}(h:0≤a∧a≤99)(ht:t≤30):0≤a*(t:Nat)∧a*(t:Nat)≤2970:=by
 have h1:(0:Int)≤(t:Nat):=Int.natCast_nonneg t
 have h2:((t:Nat):Int)≤30:=by omega
 refine⟨Int.mul_nonneg h.1 h1,?_⟩
 have h3:=Int.mul_le_mul h.2 h2 h1 (by omega:(0:Int)≤99)
 omega
theorem Gl.back {e:TypeId}{g g':Gl e 1}(new:List Value)(h1:g'.blk=g.blk)(h2:g'.n=g.n+new.length)(h3:g'.cap=g.cap)(h4:g'.l=g.l++new):∃g5:Gl e 1,g5.blk=g.blk∧g5.n=g.n∧g5.cap=g.cap∧g5.l=g.l∧g5.bl=g'.bl:=by
 have hl:=g.hl
 have hl':=g'.hl
 have hj':=g'.hj
 have hc':=g'.hc
 refine⟨⟨g.blk,g.n,g.cap,g.l,new++g'.junk,g.hl,g.hc,?_,g.h0⟩,rfl,rfl,rfl,rfl,?_⟩
 · rw[List.length_append,hj',h2,h3]
   omega
 · unfold Gl.bl
   simp only
   rw[h1,h4]
   cases g.blk with
   | none=> rfl
   | some b=> simp
theorem strs_of(g:Gl 9 1){H:View}(h:∀x∈g.bl,H x.1=some x.2){l:List (List UInt8)}(hl:g.l=strsV l){g0:Gl 9 1}(hn:g.n=g0.n)(hb:g.blk=g0.blk):StrsAt H (g0.blk.map fun b=> ⟨b,0,none⟩) g0.n (fun j=> l[j]?.getD []):=by
 have hgl:=g.hl
 rw[hl,strsV_len] at hgl
 cases hbb:g0.blk with
 | none=>
   have:=g.h0 (hb.trans hbb)
   have:=g.hc
   exact .inl (by omega)
 | some b=>
   have hbl:g.bl= [(b,true,.cells ⟨g.l++g.junk⟩ 9 (0,0))]:=by unfold Gl.bl;rw[hb,hbb]
   refine .inr ⟨b,0,true,_,9,(0,0),rfl,h (b,true,.cells ⟨g.l++g.junk⟩ 9 (0,0)) (by rw[hbl];simp),fun j hj=> ?_⟩
   show(g.l++g.junk)[_]? =_
   have hjl:j<l.length:=by omega
   rw[Nat.zero_add,Int.toNat_natCast,Nat.mul_one,List.getElem?_append_left (by rw[hl,strsV_len];exact hjl),hl]
   unfold strsV
   rw[List.getElem?_map]
   simp only[List.getElem?_eq_getElem hjl]
   rfl
structure ChSt where
 done:Bool
 total:Int
 best:List (List UInt8)
def ChSt.al(s:ChSt):Int:=if s.done then 0 else 9
def nearL(l:List (List UInt8))(s:List UInt8):Bool:=(firstTo (fun j=> clash1 (l[j]?.getD []) s) l.length).isSome
def cheapGo(can:List (List UInt8))(w:Nat→Int):Nat→List (List UInt8)→Int→ChSt→ChSt
 | 0,l,sum,st=> if st.done=true∧sum≥st.total then st else⟨true,sum,l⟩
 | d+1,l,sum,st=> if st.done=true∧sum≥st.total then st else can.foldl (fun st s=> if nearL l s then st else cheapGo can w d (l++[s]) (sum+w l.length*(takenN s:Nat)) st) st
def ptr(b:Nat):Value:=.pointer (some ⟨b,0,none⟩)
def cheapF(b8 b7 b3 b6 b9 b11:Nat):Value:=.func (.func 123) #[] #[ptr b8,ptr b7,ptr b3,ptr b6,ptr b9,ptr b11]
def stB(st:ChSt)(num:Value)(b8 b7 b6:Nat):Bl:= [(b8,true,.cells ⟨[.int .i64 st.al]⟩ 29 (0,0)),(b7,true,.cells ⟨[.int .i64 st.total]⟩ 3 (0,0)),(b6,true,.cells ⟨num.cells.toList⟩ 33 (0,0))]
def numV(a:Option Addr)(n c:Nat):Value:=.slice a n c
structure ChCap(can:List (List UInt8))(w:Nat→Int)(nw:Nat)(b8 b7 b3 b6 b9 b11:Nat)(cA wA:Option Addr)(cc wc:Nat)(H:View):Prop where
 f:∃f,H b11=some (f,.cells ⟨[cheapF b8 b7 b3 b6 b9 b11]⟩ 171 (0,0))
 c:∃f,H b9=some (f,.cells ⟨[.slice cA can.length cc]⟩ 33 (0,0))
 g:∃f,H b3=some (f,.cells ⟨[.slice wA nw wc]⟩ 26 (0,0))
 cs:StrsAt H cA can.length (fun i=> can[i]?.getD [])
 ws:FreeAt H wA nw w
theorem ChCap.le {can:List (List UInt8)}{w:Nat→Int}{nw b8 b7 b3 b6 b9 b11:Nat}{cA wA:Option Addr}{cc wc:Nat}{H H':View}(h:ChCap can w nw b8 b7 b3 b6 b9 b11 cA wA cc wc H)(k:H.le H'):ChCap can w nw b8 b7 b3 b6 b9 b11 cA wA cc wc H':=
 ⟨h.f.imp fun _ e=> k _ _ e,h.c.imp fun _ e=> k _ _ e,h.g.imp fun _ e=> k _ _ e,h.cs.le k,h.ws.le k⟩
def ChQ(H₁:View)(g:Gl 9 1)(st:ChSt)(b8 b7 b6:Nat)(v:Value)(H3:View):Prop:=
 v=.tuple ⟨[]⟩∧∃(H₂:View) (g':Gl 9 1) (a:Option Addr) (n c:Nat),H₁.le H₂∧SymSt H₂ (stB st (numV a n c) b8 b7 b6++g'.bl) H3∧(g'.blk=g.blk∧g'.n=g.n∧g'.cap=g.cap∧g'.l=g.l)∧(n=st.best.length∧SrcAt H₂ 1 (numV a n c) n (strsV st.best))
theorem foldl_at {α β:Type}(f:β→α→β)(l:List α)(i:Nat)(b:β){x:α}(h:l[i]? =some x):(l.drop i).foldl f b=(l.drop (i+1)).foldl f (f b x):=by
 obtain⟨hi,rfl⟩:=List.getElem?_eq_some_iff.1 h
 rw[List.drop_eq_getElem_cons hi,List.foldl_cons]
theorem Gl.val_of {e:TypeId}{sz:Nat}{g g':Gl e sz}(h:g'.blk=g.blk∧g'.n=g.n∧g'.cap=g.cap∧g'.l=g.l):g'.val=g.val:=by
 unfold Gl.val
 rw[h.1,h.2.1,h.2.2.1]
def canStep(can:List (List UInt8))(w:Nat→Int)(d:Nat)(l:List (List UInt8))(sum:Int)(st:ChSt)(s:List UInt8):ChSt:=if nearL l s then st else cheapGo can w d (l++[s]) (sum+w l.length*(takenN s:Nat)) st
section
variable(M:Md Tryz.prog)
theorem more2_c(can:List (List UInt8))(w:Nat→Int)(nw:Nat)(b8 b7 b3 b6 b9 b11:Nat)(cA wA:Option Addr)(cc wc:Nat)(hnw:nw≤20)(hcan:can.length≤100000)(hcn:∀s∈can,s.all dig=true∧s.length≤3)(hw:∀i,i<nw→0≤w i∧w i≤99):
   ∀ (d:Nat) (g:Gl 9 1) (l:List (List UInt8)) (sum:Int) (st:ChSt) (a:Option Addr) (n c':Nat) (H₁ Hc:View),g.l=strsV l→l.length+d=nw→(0≤sum∧sum≤3000*(l.length:Nat))→ChCap can w nw b8 b7 b3 b6 b9 b11 cA wA cc wc H₁→n=st.best.length→SrcAt H₁ 1 (numV a n c') n (strsV st.best)→SymSt H₁ (stB st (numV a n c') b8 b7 b6++g.bl) Hc→
     CallT M 123 #[g.val,.int .i64 sum,ptr b8,ptr b7,ptr b3,ptr b6,ptr b9,ptr b11] Hc (ChQ H₁ g (cheapGo can w d l sum st) b8 b7 b6):=by
 intro d
 induction d with
 | zero=>
   intro g l sum st a n c' H₁ Hc hg hld hsum hcap hn hsrc hsy
   have hgn:g.n=l.length:=by have:=g.hl;rw[hg,strsV_len] at this;omega
   have hcap0:=hcap
   obtain⟨⟨ff,hf⟩,⟨fc,hc⟩,⟨fg,hgw⟩,hcs,hws⟩:=hcap
   obtain⟨dn,total,best⟩:=st
   by_cases c1:dn=true∧sum≥total
   · obtain⟨rfl,c2⟩:=c1
     have e:cheapGo can w 0 l sum ⟨true,total,best⟩=⟨true,total,best⟩:=if_pos ⟨rfl,c2⟩
     rw[e]
     refine CallT.enter (vs:= [g.val,.int .i64 sum,ptr b8,ptr b7,ptr b3,ptr b6,ptr b9,ptr b11]) Tryz.func123 rfl Tryz.ntmps123 (Nat.le_of_ble_eq_true rfl) (hsy) fun St c cs hK=> ?_
     unfold stB ptr
     refine .seq (.sr ?_)
     refine .x (.ld 0) ?_
     refine .i ?_ (z:=by exact rfl)
     refine .m ?_
     refine .m ?_
     refine .x (.ld 1) ?_
     refine .i ?_ (z:=geq_t (by omega))
     refine .x .pk ?_
     refine .done (.tt rfl ?_)
     refine Tc.retN (E:=en) hK Tryz.func123 Tryz.results123 (vs:= []) (by exact trivial) ?_
     exact fun H' hs=> ⟨rfl,H₁,g,a,n,c',View.le_refl _,hs,⟨rfl,rfl,rfl,rfl⟩,hn,hsrc⟩
   · have e:cheapGo can w 0 l sum ⟨dn,total,best⟩=⟨true,sum,l⟩:=if_neg c1
     rw[e]
     clear e
     cases dn with
     | false=>
       refine CallT.enter (vs:= [g.val,.int .i64 sum,ptr b8,ptr b7,ptr b3,ptr b6,ptr b9,ptr b11]) Tryz.func123 rfl Tryz.ntmps123 (Nat.le_of_ble_eq_true rfl) (hsy) fun St c cs hK=> ?_
       unfold stB ptr
       refine .seq (.sr ?_)
       refine .x (.ld 0) ?_
       refine .i ?_ (z:=by exact rfl)
       refine .m ?_
       refine .sk ?_
       refine .sk ?_
       refine .sk ?_
       refine .x .pk ?_
       refine .done (.ff rfl (.skip (.seq (.sr ?_))))
       refine .m ?_
       refine .x .ln ?_
       refine .x .l0 ?_
       refine .x .ln ?_
       refine .i ?_ (z:=eql_t (by omega))
       refine .done (.tt rfl (.sr ?_))
       refine .m ?_
       refine .e (Or.callNew Gl.val Gl.bl (fun g2:Gl 9 1=> g2.l=strsV l∧g2.n=g.n) rfl rfl rfl rfl rfl (by decide) Gl.bl_nodup (fun H hs=> .f ca124 rfl (cloneS_c M H (g.blk.map fun b=> ⟨b,0,none⟩) g.n g.cap (strsV l) (by omega) (by rw[←hg];exact g.src (fun x hx=> hs.at_ x (List.mem_append_right _ hx))) (strsV_single l))) (fun g2 hg2=> ?_))
       refine .m ?_
       refine .e (.st 2 (zz:=?_))
       refine .e (.st 1 (zz:=?_))
       refine .e (.st 0 (zz:=?_))
       refine .done ?_
       refine Tc.retN (E:=en) hK Tryz.func123 Tryz.results123 (vs:= []) (by exact trivial) ?_
       intro H' hs
       obtain⟨H₂,h1,h2⟩:=SymSt.unappend (B:= [(b8,true,.cells ⟨[.int .i64 0]⟩ 29 (0,0)),(b7,true,.cells ⟨[.int .i64 sum]⟩ 3 (0,0)),(b6,true,.cells ⟨[g2.val]⟩ 33 (0,0))]++g.bl) (L:=g2.bl) hs
       refine⟨rfl,H₂,g,g2.blk.map (fun b=> ⟨b,0,none⟩),g2.n,g2.cap,h2.base,h1,⟨rfl,rfl,rfl,rfl⟩,by rw[hg2.2];exact hgn,?_⟩
       have h3:=g2.src (H:=H₂) (fun x hx=> h2.at_ x hx)
       rw[hg2.1] at h3
       exact h3
     | true=>
       have c2:intBin .geq .i64 sum (ChSt.mk true total best).total=some (.bool false):=geq_f (Int.lt_of_not_ge fun h=> c1 ⟨rfl,h⟩)
       refine CallT.enter (vs:= [g.val,.int .i64 sum,ptr b8,ptr b7,ptr b3,ptr b6,ptr b9,ptr b11]) Tryz.func123 rfl Tryz.ntmps123 (Nat.le_of_ble_eq_true rfl) (hsy) fun St c cs hK=> ?_
       unfold stB ptr
       refine .seq (.sr ?_)
       refine .x (.ld 0) ?_
       refine .i ?_ (z:=by exact rfl)
       refine .m ?_
       refine .m ?_
       refine .x (.ld 1) ?_
       refine .i ?_ (z:=by assumption)
       refine .x .pk ?_
       refine .done (.ff rfl (.skip (.seq (.sr ?_))))
       refine .m ?_
       refine .x .ln ?_
       refine .x .l0 ?_
       refine .x .ln ?_
       refine .i ?_ (z:=eql_t (by omega))
       refine .done (.tt rfl (.sr ?_))
       refine .m ?_
       refine .e (Or.callNew Gl.val Gl.bl (fun g2:Gl 9 1=> g2.l=strsV l∧g2.n=g.n) rfl rfl rfl rfl rfl (by decide) Gl.bl_nodup (fun H hs=> .f ca124 rfl (cloneS_c M H (g.blk.map fun b=> ⟨b,0,none⟩) g.n g.cap (strsV l) (by omega) (by rw[←hg];exact g.src (fun x hx=> hs.at_ x (List.mem_append_right _ hx))) (strsV_single l))) (fun g2 hg2=> ?_))
       refine .m ?_
       refine .e (.st 2 (zz:=?_))
       refine .e (.st 1 (zz:=?_))
       refine .e (.st 0 (zz:=?_))
       refine .done ?_
       refine Tc.retN (E:=en) hK Tryz.func123 Tryz.results123 (vs:= []) (by exact trivial) ?_
       intro H' hs
       obtain⟨H₂,h1,h2⟩:=SymSt.unappend (B:= [(b8,true,.cells ⟨[.int .i64 0]⟩ 29 (0,0)),(b7,true,.cells ⟨[.int .i64 sum]⟩ 3 (0,0)),(b6,true,.cells ⟨[g2.val]⟩ 33 (0,0))]++g.bl) (L:=g2.bl) hs
       refine⟨rfl,H₂,g,g2.blk.map (fun b=> ⟨b,0,none⟩),g2.n,g2.cap,h2.base,h1,⟨rfl,rfl,rfl,rfl⟩,by rw[hg2.2];exact hgn,?_⟩
       have h3:=g2.src (H:=H₂) (fun x hx=> h2.at_ x hx)
       rw[hg2.1] at h3
       exact h3
 | succ d ihd=>
   intro g l sum st a n c' H₁ Hc hg hld hsum hcap hn hsrc hsy
   have hgn:g.n=l.length:=by have:=g.hl;rw[hg,strsV_len] at this;omega
   have hcap0:=hcap
   obtain⟨⟨ff,hf⟩,⟨fc,hc⟩,⟨fg,hgw⟩,hcs,hws⟩:=hcap
   obtain⟨dn,total,best⟩:=st
   by_cases c1:dn=true∧sum≥total
   · obtain⟨rfl,c2⟩:=c1
     have e:cheapGo can w (d+1) l sum ⟨true,total,best⟩=⟨true,total,best⟩:=if_pos ⟨rfl,c2⟩
     rw[e]
     refine CallT.enter (vs:= [g.val,.int .i64 sum,ptr b8,ptr b7,ptr b3,ptr b6,ptr b9,ptr b11]) Tryz.func123 rfl Tryz.ntmps123 (Nat.le_of_ble_eq_true rfl) (hsy) fun St c cs hK=> ?_
     unfold stB ptr
     refine .seq (.sr ?_)
     refine .x (.ld 0) ?_
     refine .i ?_ (z:=by exact rfl)
     refine .m ?_
     refine .m ?_
     refine .x (.ld 1) ?_
     refine .i ?_ (z:=geq_t (by omega))
     refine .x .pk ?_
     refine .done (.tt rfl ?_)
     refine Tc.retN (E:=en) hK Tryz.func123 Tryz.results123 (vs:= []) (by exact trivial) ?_
     exact fun H' hs=> ⟨rfl,H₁,g,a,n,c',View.le_refl _,hs,⟨rfl,rfl,rfl,rfl⟩,hn,hsrc⟩
   · have e:cheapGo can w (d+1) l sum ⟨dn,total,best⟩=can.foldl (canStep can w d l sum) ⟨dn,total,best⟩:=if_neg c1
     rw[e]
     clear e
     cases dn with
     | false =>
       refine CallT.enter (vs:= [g.val,.int .i64 sum,ptr b8,ptr b7,ptr b3,ptr b6,ptr b9,ptr b11]) Tryz.func123 rfl Tryz.ntmps123 (Nat.le_of_ble_eq_true rfl) (hsy) fun St c cs hK=> ?_
       unfold stB ptr
       refine .seq (.sr ?_)
       refine .x (.ld 0) ?_
       refine .i ?_ (z:=by exact rfl)
       refine .m ?_
       refine .sk ?_
       refine .sk ?_
       refine .sk ?_
       refine .x .pk ?_
       refine .done (.ff rfl (.skip (.seq (.sr ?_))))
       refine .m ?_
       refine .x .ln ?_
       refine .x .l0 ?_
       refine .x .ln ?_
       refine .i ?_ (z:=eql_f (by omega))
       refine .done (.ff rfl (.skip (.sr ?_)))
       refine .x .l0 ?_
       refine .x .ln ?_
       refine .m ?_
       refine .done (.block ?_)
       refine Tc.db (Tc.loopB (σ:= { y:View×Nat×ChSt×Gl 9 1×(Option Addr×Nat×Nat)//H₁.le y.1∧y.2.1≤can.length∧(can.drop y.2.1).foldl (canStep can w d l sum) y.2.2.1=can.foldl (canStep can w d l sum) (⟨false,total,best⟩:ChSt)∧(y.2.2.2.1.blk=g.blk∧y.2.2.2.1.n=g.n∧y.2.2.2.1.cap=g.cap∧y.2.2.2.1.l=g.l)∧(y.2.2.2.2.2.1=y.2.2.1.best.length∧SrcAt y.1 1 (numV y.2.2.2.2.1 y.2.2.2.2.2.1 y.2.2.2.2.2.2) y.2.2.2.2.2.1 (strsV y.2.2.1.best)) })
         (fun y=> (y.1.1,[(0,g.val),(1,.int .i64 sum),(2,.pointer (some ⟨b8,0,none⟩)),(3,.pointer (some ⟨b7,0,none⟩)),(4,.pointer (some ⟨b3,0,none⟩)),(5,.pointer (some ⟨b6,0,none⟩)),(6,.pointer (some ⟨b9,0,none⟩)),(7,.pointer (some ⟨b11,0,none⟩)),(27,.slice cA can.length cc),(28,.int .i64 (can.length:Nat)),(29,.int .i64 (y.1.2.1:Nat))],[(b8,true,.cells ⟨[.int .i64 y.1.2.2.1.al]⟩ 29 (0,0)),(b7,true,.cells ⟨[.int .i64 y.1.2.2.1.total]⟩ 3 (0,0)),(b6,true,.cells ⟨[numV y.1.2.2.2.2.1 y.1.2.2.2.2.2.1 y.1.2.2.2.2.2.2]⟩ 33 (0,0))]++y.1.2.2.2.1.bl)) (fun y=> can.length-y.1.2.1) ?_ ⟨(H₁,0,(⟨false,total,best⟩:ChSt),g,(a,n,c')),View.le_refl _,Nat.zero_le _,rfl,⟨rfl,rfl,rfl,rfl⟩,hn,hsrc⟩)
       rintro⟨⟨H₂,i,st,g2,a2,n2,c2'⟩,p1,p2,p3,p4,p5,p6⟩ ih
       simp only at p1 p2 p3 p4 p5 p6
       show Tc M St _ _ H₂ _ [(0,g.val),(1,.int .i64 sum),(2,.pointer (some ⟨b8,0,none⟩)),(3,.pointer (some ⟨b7,0,none⟩)),(4,.pointer (some ⟨b3,0,none⟩)),(5,.pointer (some ⟨b6,0,none⟩)),(6,.pointer (some ⟨b9,0,none⟩)),(7,.pointer (some ⟨b11,0,none⟩)),(27,.slice cA can.length cc),(28,.int .i64 (can.length:Nat)),(29,.int .i64 (i:Nat))] ([(b8,true,.cells ⟨[.int .i64 st.al]⟩ 29 (0,0)),(b7,true,.cells ⟨[.int .i64 st.total]⟩ 3 (0,0)),(b6,true,.cells ⟨[numV a2 n2 c2']⟩ 33 (0,0))]++g2.bl) _ _
       by_cases d1:i=can.length
       · have e:can.foldl (canStep can w d l sum) (⟨false,total,best⟩:ChSt)=st:=by rw[←p3,d1,List.drop_length];rfl
         rw[e] at hK
         subst d1
         refine .sr ?_
         refine .i ?_ (z:=lss_f (by omega))
         refine .done (.seq (.ff rfl (.exit rfl ?_)))
         refine Tc.overN (E:=en) hK Tryz.func123 Tryz.results123 (vs:= []) (by exact trivial) ?_
         exact fun H' hs=> ⟨rfl,H₂,g2,a2,n2,c2',p1,hs,p4,p5,p6⟩
       · have d2:i<can.length:=by omega
         obtain⟨s,hs0⟩:∃s,can[i]? =some s:=⟨_,List.getElem?_eq_getElem d2⟩
         have hsm:=hcn s (List.mem_of_getElem? hs0)
         have htk:=takenN_le s hsm.1
         obtain h0|⟨cb,co,fcb,cgs,cgt,cgz,rfl,hcb,hcl⟩:=hcs
         · omega
         have f1:=hcl i d2
         simp only[hs0,Option.getD_some] at f1
         have hcb2:=p1 _ _ hcb
         rw[foldl_at _ _ _ _ hs0] at p3
         have hgv:=Gl.val_of p4
         have hnear:=fun(H':View) (bx:Nat) (fx:Bool) (hg2:∀x∈g2.bl,H' x.1=some x.2) (hbx:H' bx=some (fx,.cells ⟨[strV s]⟩ 9 (0,0)))=> ContainsS_c M H' (g.blk.map fun b=> ⟨b,0,none⟩) g.n g.cap (fun j=> l[j]?.getD []) (strs_of g2 hg2 (p4.2.2.2.trans hg) (p4.2.1) p4.1) (by omega) (.func (.func 126) #[] #[.pointer (some ⟨bx,0,none⟩)]) (fun j=> clash1 (l[j]?.getD []) s) (fun j _ H'' h''=> FnT.of (first:= []) (captured:= [_]) ca126 rfl (near_c M H'' s bx fx (h'' _ _ hbx) (l[j]?.getD [])))
         have hnl:(firstTo (fun j=> clash1 (l[j]?.getD []) s) g.n).isSome=nearL l s:=by unfold nearL;rw[hgn]
         cases hq:nearL l s with
         | true=>
           have e3:canStep can w d l sum st s=st:=by unfold canStep;rw[if_pos hq]
           rw[e3] at p3
           rw[hq] at hnl
           refine .sr ?_
           refine .i ?_ (z:=lss_t (by omega))
           refine .done (.seq (.tt rfl (.skip (.seq (.block (.sr ?_))))))
           refine .x .ia ?_
           refine .x .l0 ?_
           refine .e (.al (zz:=fun bx=> ?_))
           refine .e (.st 0 (zz:=?_))
           refine .done (.seq (.sr ?_))
           refine .m ?_
           refine .x .mf ?_
           refine .c rfl rfl rfl rfl (fun H hs=> .f ca125 rfl (isB (hnear H bx true (fun x hx=> hs.at_ x (List.mem_cons_of_mem _ (List.mem_append_right _ hx))) (hs.get (i:=0) rfl)) hnl)) ?_
           refine .done (.tt rfl (.exit rfl (.r ?_)))
           refine .i ?_ (z:=add_in (by omega) (by omega))
           refine .m ?_
           refine .done ?_
           exact Tc.db (ih ⟨(H₂,i+1,st,g2,(a2,n2,c2')),p1,by simp only;omega,p3,p4,p5,p6⟩ (by simp only;omega))
         | false=>
           have e3:canStep can w d l sum st s=cheapGo can w d (l++[s]) (sum+w l.length*(takenN s:Nat)) st:=by unfold canStep;rw[if_neg (by rw[hq];decide)]
           rw[e3] at p3
           rw[hq] at hnl
           have hwl:=hw l.length (by omega)
           have hmul0:0≤w l.length*(takenN s:Nat)∧w l.length*(takenN s:Nat)≤2970:=wmul hwl (by omega)
           have hcap2:=hcap0.le p1
           obtain⟨⟨ff2,hf2⟩,⟨fc2,hc2⟩,⟨fg2,hgw2⟩,_,hws2⟩:=hcap2
           obtain h0|⟨wb,wo,fwb,wgs,wgt,wgz,rfl,hwb,hwl2⟩:=hws2
           · omega
           have f2:=hwl2 l.length (by omega)
           rw[←hgn] at f2
           have f3:intBin .mul .i64 (w g.n) (takenN s:Nat)=some (.int .i64 (w l.length*(takenN s:Nat))):=by rw[hgn];exact mul_in (by omega) (by omega)
           have f4:intBin .add .i64 sum (w l.length*(takenN s:Nat))=some (.int .i64 (sum+w l.length*(takenN s:Nat))):=add_in (by omega) (by omega)
           refine .sr ?_
           refine .i ?_ (z:=lss_t (by omega))
           refine .done (.seq (.tt rfl (.skip (.seq (.block (.sr ?_))))))
           refine .x .ia ?_
           refine .x .l0 ?_
           refine .e (.al (zz:=fun bx=> ?_))
           refine .e (.st 0 (zz:=?_))
           refine .done (.seq (.sr ?_))
           refine .m ?_
           refine .x .mf ?_
           refine .c rfl rfl rfl rfl (fun H hs=> .f ca125 rfl (isB (hnear H bx true (fun x hx=> hs.at_ x (List.mem_cons_of_mem _ (List.mem_append_right _ hx))) (hs.get (i:=0) rfl)) hnl)) ?_
           refine .done (.ff rfl (.skip ?_))
           refine Tc.drT [4] [15] [] 4 mixed rfl ?_
           refine Ta.tkwC 0 (by kernel_rfl) rfl rfl rfl (by decide) rfl rfl (OpV.take .l0) ?_
           refine Ta.tkC 1 (by kernel_rfl) rfl rfl (by decide) rfl rfl (OpV.take .mv) ?_
           refine Ta.tkC 2 (by kernel_rfl) rfl rfl (by decide) rfl rfl (OpV.take (.ld 0)) ?_
           refine Ta.tkwC 5 (by kernel_rfl) rfl rfl rfl (by decide) rfl rfl (OpV.take .mv) ?_
           refine Ta.tkwC 6 (by kernel_rfl) rfl rfl rfl (by decide) rfl rfl (OpV.take .l0) ?_
           refine Ta.tkwC 7 (by kernel_rfl) rfl rfl rfl (by decide) rfl rfl (OpV.take .mv) ?_
           refine Ta.tkwC 8 (by kernel_rfl) rfl rfl rfl (by decide) rfl rfl (OpV.take .ln) ?_
           refine Ta.tkwC 9 (by kernel_rfl) rfl rfl rfl (by decide) rfl rfl (OpV.take .ia) ?_
           refine Ta.tkwC 10 (by kernel_rfl) rfl rfl rfl (by decide) rfl rfl (OpV.take .l0) ?_
           refine Ta.tkwC 11 (by kernel_rfl) rfl rfl rfl (by decide) rfl rfl (OpV.take (.ld 0)) ?_
           refine Ta.each [3] (by kernel_rfl) rfl ⟨TaOp.mk rfl rfl rfl (.bs (zz:=fun bs=> ⟨S3.mk (by apply List.Sublist.cons;exact List.sublist_append_left _ _) (.inr (by apply List.Sublist.cons;exact List.Sublist.refl _)),?_⟩)),trivial⟩
           refine Ta.each [4] (by kernel_rfl) rfl ⟨TaOp.mk rfl rfl rfl (Or.appendK (E:=en) (g:=g2) (m:=1) (new:= [strV s]) (yv:=.slice (some ⟨bs,0,none⟩) 1 1) 5 rfl rfl rfl rfl (by rw[hgv];rfl) rfl rfl rfl rfl rfl rfl rfl rfl rfl rfl (fun H hs=> SrcAt.of (hs.get (i:=0) rfl) (Nat.le_of_ble_eq_true rfl)) rfl (by omega) rfl (by decide) (fun g3 hn3 hl3 hb3 hc3=> ⟨S3.mk (by apply List.Sublist.cons;exact List.sublist_append_left _ _) (.inl (by kernel_rfl)),?_⟩) (fun g3 hn3 hl3=> ⟨S3.mk (by apply List.Sublist.cons;exact List.sublist_append_left _ _) (.inl (by kernel_rfl)),?_⟩)),trivial⟩
           · refine Ta.tkwC 12 (by kernel_rfl) rfl rfl rfl (by decide) rfl rfl (OpV.takeCall rfl rfl rfl rfl (fun H hs=> .f ca128 rfl (taken_c M H s hsm.1 (by omega)))) ?_
             refine Ta.tkwC 13 (by kernel_rfl) rfl rfl rfl (by decide) rfl rfl (OpV.take (.it (zz:=(by assumption)))) ?_
             refine Ta.tkwC 14 (by kernel_rfl) rfl rfl rfl (by decide) rfl rfl (OpV.take (.it (zz:=(by assumption)))) ?_
             refine Ta.lift (L₂:= [(bs,true,.cells ⟨[strV s]⟩ 9 (0,0)),(bx,true,.cells ⟨[strV s]⟩ 9 (0,0))]) (L₁:= [(b8,true,.cells ⟨[.int .i64 st.al]⟩ 29 (0,0)),(b7,true,.cells ⟨[.int .i64 st.total]⟩ 3 (0,0)),(b6,true,.cells ⟨[numV a2 n2 c2']⟩ 33 (0,0))]++g3.bl) rfl (fun Hx hx=> ?_)
             refine Ta.callF 15 (by kernel_rfl) rfl (by kernel_rfl) rfl rfl rfl rfl rfl rfl (by decide) (FnT.of (first:= []) (captured:= [_,_,_,_,_,_]) ca123 rfl (ihd g3 (l++[s]) _ st a2 n2 c2' H₂ Hx (by rw[hl3,p4.2.2.2,hg,strsV_app];rfl) (by rw[List.length_append];show l.length+1+d=nw;omega) (by rw[List.length_append];show _∧_≤3000*((l.length+1:Nat):Int);omega) (hcap0.le p1) p5 p6 hx)) (fun v H₃ hv=> ?_)
             obtain⟨_,H₄,g4,a4,n4,c4,r1,r2,r3,r4,r5⟩:=hv
             refine Ta.expand r2 ?_
             unfold stB
             refine Ta.done (by kernel_rfl) ?_
             refine .inBlock (.r ?_)
             refine .i ?_ (z:=add_in (by omega) (by omega))
             refine .m ?_
             refine .done ?_
             obtain⟨g5,s1,s2,s3,s4,s5⟩:=Gl.back (g:=g2) (g':=g4) [strV s] (r3.1.trans hb3) (by rw[r3.2.1,hn3];rfl) (by rw[r3.2.2.1,hc3]) (by rw[r3.2.2.2,hl3])
             rw[←s5]
             exact Tc.db (ih ⟨(H₄,i+1,_,g5,(a4,n4,c4)),View.le_trans p1 r1,by simp only;omega,p3,⟨s1.trans p4.1,s2.trans p4.2.1,s3.trans p4.2.2.1,s4.trans p4.2.2.2⟩,r4,r5⟩ (by simp only;omega))
           · refine Ta.permL (L₁:=([(bs,true,.cells ⟨[strV s]⟩ 9 (0,0)),(bx,true,.cells ⟨[strV s]⟩ 9 (0,0))]++g2.bl)++([(b8,true,.cells ⟨[.int .i64 st.al]⟩ 29 (0,0)),(b7,true,.cells ⟨[.int .i64 st.total]⟩ 3 (0,0)),(b6,true,.cells ⟨[numV a2 n2 c2']⟩ 33 (0,0))]++g3.bl)) ?_ ?_
             · simp only[List.cons_append,List.nil_append]
               refine .cons _ (.cons _ ?_)
               exact perm3 g2.bl _ _ _ g3.bl
             · refine Ta.tkwC 12 (by kernel_rfl) rfl rfl rfl (by decide) rfl rfl (OpV.takeCall rfl rfl rfl rfl (fun H hs=> .f ca128 rfl (taken_c M H s hsm.1 (by omega)))) ?_
               refine Ta.tkwC 13 (by kernel_rfl) rfl rfl rfl (by decide) rfl rfl (OpV.take (.it (zz:=(by assumption)))) ?_
               refine Ta.tkwC 14 (by kernel_rfl) rfl rfl rfl (by decide) rfl rfl (OpV.take (.it (zz:=(by assumption)))) ?_
               refine Ta.lift (L₂:= [(bs,true,.cells ⟨[strV s]⟩ 9 (0,0)),(bx,true,.cells ⟨[strV s]⟩ 9 (0,0))]++g2.bl) (L₁:= [(b8,true,.cells ⟨[.int .i64 st.al]⟩ 29 (0,0)),(b7,true,.cells ⟨[.int .i64 st.total]⟩ 3 (0,0)),(b6,true,.cells ⟨[numV a2 n2 c2']⟩ 33 (0,0))]++g3.bl) rfl (fun Hx hx=> ?_)
               refine Ta.callF 15 (by kernel_rfl) rfl (by kernel_rfl) rfl rfl rfl rfl rfl rfl (by decide) (FnT.of (first:= []) (captured:= [_,_,_,_,_,_]) ca123 rfl (ihd g3 (l++[s]) _ st a2 n2 c2' H₂ Hx (by rw[hl3,p4.2.2.2,hg,strsV_app];rfl) (by rw[List.length_append];show l.length+1+d=nw;omega) (by rw[List.length_append];show _∧_≤3000*((l.length+1:Nat):Int);omega) (hcap0.le p1) p5 p6 hx)) (fun v H₃ hv=> ?_)
               obtain⟨_,H₄,g4,a4,n4,c4,r1,r2,r3,r4,r5⟩:=hv
               refine Ta.expand r2 ?_
               unfold stB
               refine Ta.done (by kernel_rfl) ?_
               refine .inBlock (.r ?_)
               refine .i ?_ (z:=add_in (by omega) (by omega))
               refine .m ?_
               refine .done ?_
               have hfin:=ih ⟨(H₄,i+1,_,g2,(a4,n4,c4)),View.le_trans p1 r1,by simp only;omega,p3,p4,r4,r5⟩ (by simp only;omega)
               refine Tc.permL (perm4 _ _ g2.bl _ _ _ g4.bl) ?_
               exact Tc.db hfin
     | true=>
       have c2:intBin .geq .i64 sum (ChSt.mk true total best).total=some (.bool false):=geq_f (Int.lt_of_not_ge fun h=> c1 ⟨rfl,h⟩)
       refine CallT.enter (vs:= [g.val,.int .i64 sum,ptr b8,ptr b7,ptr b3,ptr b6,ptr b9,ptr b11]) Tryz.func123 rfl Tryz.ntmps123 (Nat.le_of_ble_eq_true rfl) (hsy) fun St c cs hK=> ?_
       unfold stB ptr
       refine .seq (.sr ?_)
       refine .x (.ld 0) ?_
       refine .i ?_ (z:=by exact rfl)
       refine .m ?_
       refine .m ?_
       refine .x (.ld 1) ?_
       refine .i ?_ (z:=by assumption)
       refine .x .pk ?_
       refine .done (.ff rfl (.skip (.seq (.sr ?_))))
       refine .m ?_
       refine .x .ln ?_
       refine .x .l0 ?_
       refine .x .ln ?_
       refine .i ?_ (z:=eql_f (by omega))
       refine .done (.ff rfl (.skip (.sr ?_)))
       refine .x .l0 ?_
       refine .x .ln ?_
       refine .m ?_
       refine .done (.block ?_)
       refine Tc.db (Tc.loopB (σ:= { y:View×Nat×ChSt×Gl 9 1×(Option Addr×Nat×Nat)//H₁.le y.1∧y.2.1≤can.length∧(can.drop y.2.1).foldl (canStep can w d l sum) y.2.2.1=can.foldl (canStep can w d l sum) (⟨true,total,best⟩:ChSt)∧(y.2.2.2.1.blk=g.blk∧y.2.2.2.1.n=g.n∧y.2.2.2.1.cap=g.cap∧y.2.2.2.1.l=g.l)∧(y.2.2.2.2.2.1=y.2.2.1.best.length∧SrcAt y.1 1 (numV y.2.2.2.2.1 y.2.2.2.2.2.1 y.2.2.2.2.2.2) y.2.2.2.2.2.1 (strsV y.2.2.1.best)) })
         (fun y=> (y.1.1,[(0,g.val),(1,.int .i64 sum),(2,.pointer (some ⟨b8,0,none⟩)),(3,.pointer (some ⟨b7,0,none⟩)),(4,.pointer (some ⟨b3,0,none⟩)),(5,.pointer (some ⟨b6,0,none⟩)),(6,.pointer (some ⟨b9,0,none⟩)),(7,.pointer (some ⟨b11,0,none⟩)),(27,.slice cA can.length cc),(28,.int .i64 (can.length:Nat)),(29,.int .i64 (y.1.2.1:Nat))],[(b8,true,.cells ⟨[.int .i64 y.1.2.2.1.al]⟩ 29 (0,0)),(b7,true,.cells ⟨[.int .i64 y.1.2.2.1.total]⟩ 3 (0,0)),(b6,true,.cells ⟨[numV y.1.2.2.2.2.1 y.1.2.2.2.2.2.1 y.1.2.2.2.2.2.2]⟩ 33 (0,0))]++y.1.2.2.2.1.bl)) (fun y=> can.length-y.1.2.1) ?_ ⟨(H₁,0,(⟨true,total,best⟩:ChSt),g,(a,n,c')),View.le_refl _,Nat.zero_le _,rfl,⟨rfl,rfl,rfl,rfl⟩,hn,hsrc⟩)
       rintro⟨⟨H₂,i,st,g2,a2,n2,c2'⟩,p1,p2,p3,p4,p5,p6⟩ ih
       simp only at p1 p2 p3 p4 p5 p6
       show Tc M St _ _ H₂ _ [(0,g.val),(1,.int .i64 sum),(2,.pointer (some ⟨b8,0,none⟩)),(3,.pointer (some ⟨b7,0,none⟩)),(4,.pointer (some ⟨b3,0,none⟩)),(5,.pointer (some ⟨b6,0,none⟩)),(6,.pointer (some ⟨b9,0,none⟩)),(7,.pointer (some ⟨b11,0,none⟩)),(27,.slice cA can.length cc),(28,.int .i64 (can.length:Nat)),(29,.int .i64 (i:Nat))] ([(b8,true,.cells ⟨[.int .i64 st.al]⟩ 29 (0,0)),(b7,true,.cells ⟨[.int .i64 st.total]⟩ 3 (0,0)),(b6,true,.cells ⟨[numV a2 n2 c2']⟩ 33 (0,0))]++g2.bl) _ _
       by_cases d1:i=can.length
       · have e:can.foldl (canStep can w d l sum) (⟨true,total,best⟩:ChSt)=st:=by rw[←p3,d1,List.drop_length];rfl
         rw[e] at hK
         subst d1
         refine .sr ?_
         refine .i ?_ (z:=lss_f (by omega))
         refine .done (.seq (.ff rfl (.exit rfl ?_)))
         refine Tc.overN (E:=en) hK Tryz.func123 Tryz.results123 (vs:= []) (by exact trivial) ?_
         exact fun H' hs=> ⟨rfl,H₂,g2,a2,n2,c2',p1,hs,p4,p5,p6⟩
       · have d2:i<can.length:=by omega
         obtain⟨s,hs0⟩:∃s,can[i]? =some s:=⟨_,List.getElem?_eq_getElem d2⟩
         have hsm:=hcn s (List.mem_of_getElem? hs0)
         have htk:=takenN_le s hsm.1
         obtain h0|⟨cb,co,fcb,cgs,cgt,cgz,rfl,hcb,hcl⟩:=hcs
         · omega
         have f1:=hcl i d2
         simp only[hs0,Option.getD_some] at f1
         have hcb2:=p1 _ _ hcb
         rw[foldl_at _ _ _ _ hs0] at p3
         have hgv:=Gl.val_of p4
         have hnear:=fun(H':View) (bx:Nat) (fx:Bool) (hg2:∀x∈g2.bl,H' x.1=some x.2) (hbx:H' bx=some (fx,.cells ⟨[strV s]⟩ 9 (0,0)))=> ContainsS_c M H' (g.blk.map fun b=> ⟨b,0,none⟩) g.n g.cap (fun j=> l[j]?.getD []) (strs_of g2 hg2 (p4.2.2.2.trans hg) (p4.2.1) p4.1) (by omega) (.func (.func 126) #[] #[.pointer (some ⟨bx,0,none⟩)]) (fun j=> clash1 (l[j]?.getD []) s) (fun j _ H'' h''=> FnT.of (first:= []) (captured:= [_]) ca126 rfl (near_c M H'' s bx fx (h'' _ _ hbx) (l[j]?.getD [])))
         have hnl:(firstTo (fun j=> clash1 (l[j]?.getD []) s) g.n).isSome=nearL l s:=by unfold nearL;rw[hgn]
         cases hq:nearL l s with
         | true=>
           have e3:canStep can w d l sum st s=st:=by unfold canStep;rw[if_pos hq]
           rw[e3] at p3
           rw[hq] at hnl
           refine .sr ?_
           refine .i ?_ (z:=lss_t (by omega))
           refine .done (.seq (.tt rfl (.skip (.seq (.block (.sr ?_))))))
           refine .x .ia ?_
           refine .x .l0 ?_
           refine .e (.al (zz:=fun bx=> ?_))
           refine .e (.st 0 (zz:=?_))
           refine .done (.seq (.sr ?_))
           refine .m ?_
           refine .x .mf ?_
           refine .c rfl rfl rfl rfl (fun H hs=> .f ca125 rfl (isB (hnear H bx true (fun x hx=> hs.at_ x (List.mem_cons_of_mem _ (List.mem_append_right _ hx))) (hs.get (i:=0) rfl)) hnl)) ?_
           refine .done (.tt rfl (.exit rfl (.r ?_)))
           refine .i ?_ (z:=add_in (by omega) (by omega))
           refine .m ?_
           refine .done ?_
           exact Tc.db (ih ⟨(H₂,i+1,st,g2,(a2,n2,c2')),p1,by simp only;omega,p3,p4,p5,p6⟩ (by simp only;omega))
         | false=>
           have e3:canStep can w d l sum st s=cheapGo can w d (l++[s]) (sum+w l.length*(takenN s:Nat)) st:=by unfold canStep;rw[if_neg (by rw[hq];decide)]
           rw[e3] at p3
           rw[hq] at hnl
           have hwl:=hw l.length (by omega)
           have hmul0:0≤w l.length*(takenN s:Nat)∧w l.length*(takenN s:Nat)≤2970:=wmul hwl (by omega)
           have hcap2:=hcap0.le p1
           obtain⟨⟨ff2,hf2⟩,⟨fc2,hc2⟩,⟨fg2,hgw2⟩,_,hws2⟩:=hcap2
           obtain h0|⟨wb,wo,fwb,wgs,wgt,wgz,rfl,hwb,hwl2⟩:=hws2
           · omega
           have f2:=hwl2 l.length (by omega)
           rw[←hgn] at f2
           have f3:intBin .mul .i64 (w g.n) (takenN s:Nat)=some (.int .i64 (w l.length*(takenN s:Nat))):=by rw[hgn];exact mul_in (by omega) (by omega)
           have f4:intBin .add .i64 sum (w l.length*(takenN s:Nat))=some (.int .i64 (sum+w l.length*(takenN s:Nat))):=add_in (by omega) (by omega)
           refine .sr ?_
           refine .i ?_ (z:=lss_t (by omega))
           refine .done (.seq (.tt rfl (.skip (.seq (.block (.sr ?_))))))
           refine .x .ia ?_
           refine .x .l0 ?_
           refine .e (.al (zz:=fun bx=> ?_))
           refine .e (.st 0 (zz:=?_))
           refine .done (.seq (.sr ?_))
           refine .m ?_
           refine .x .mf ?_
           refine .c rfl rfl rfl rfl (fun H hs=> .f ca125 rfl (isB (hnear H bx true (fun x hx=> hs.at_ x (List.mem_cons_of_mem _ (List.mem_append_right _ hx))) (hs.get (i:=0) rfl)) hnl)) ?_
           refine .done (.ff rfl (.skip ?_))
           refine Tc.drT [4] [15] [] 4 mixed rfl ?_
           refine Ta.tkwC 0 (by kernel_rfl) rfl rfl rfl (by decide) rfl rfl (OpV.take .l0) ?_
           refine Ta.tkC 1 (by kernel_rfl) rfl rfl (by decide) rfl rfl (OpV.take .mv) ?_
           refine Ta.tkC 2 (by kernel_rfl) rfl rfl (by decide) rfl rfl (OpV.take (.ld 0)) ?_
           refine Ta.tkwC 5 (by kernel_rfl) rfl rfl rfl (by decide) rfl rfl (OpV.take .mv) ?_
           refine Ta.tkwC 6 (by kernel_rfl) rfl rfl rfl (by decide) rfl rfl (OpV.take .l0) ?_
           refine Ta.tkwC 7 (by kernel_rfl) rfl rfl rfl (by decide) rfl rfl (OpV.take .mv) ?_
           refine Ta.tkwC 8 (by kernel_rfl) rfl rfl rfl (by decide) rfl rfl (OpV.take .ln) ?_
           refine Ta.tkwC 9 (by kernel_rfl) rfl rfl rfl (by decide) rfl rfl (OpV.take .ia) ?_
           refine Ta.tkwC 10 (by kernel_rfl) rfl rfl rfl (by decide) rfl rfl (OpV.take .l0) ?_
           refine Ta.tkwC 11 (by kernel_rfl) rfl rfl rfl (by decide) rfl rfl (OpV.take (.ld 0)) ?_
           refine Ta.each [3] (by kernel_rfl) rfl ⟨TaOp.mk rfl rfl rfl (.bs (zz:=fun bs=> ⟨S3.mk (by apply List.Sublist.cons;exact List.sublist_append_left _ _) (.inr (by apply List.Sublist.cons;exact List.Sublist.refl _)),?_⟩)),trivial⟩
           refine Ta.each [4] (by kernel_rfl) rfl ⟨TaOp.mk rfl rfl rfl (Or.appendK (E:=en) (g:=g2) (m:=1) (new:= [strV s]) (yv:=.slice (some ⟨bs,0,none⟩) 1 1) 5 rfl rfl rfl rfl (by rw[hgv];rfl) rfl rfl rfl rfl rfl rfl rfl rfl rfl rfl (fun H hs=> SrcAt.of (hs.get (i:=0) rfl) (Nat.le_of_ble_eq_true rfl)) rfl (by omega) rfl (by decide) (fun g3 hn3 hl3 hb3 hc3=> ⟨S3.mk (by apply List.Sublist.cons;exact List.sublist_append_left _ _) (.inl (by kernel_rfl)),?_⟩) (fun g3 hn3 hl3=> ⟨S3.mk (by apply List.Sublist.cons;exact List.sublist_append_left _ _) (.inl (by kernel_rfl)),?_⟩)),trivial⟩
           · refine Ta.tkwC 12 (by kernel_rfl) rfl rfl rfl (by decide) rfl rfl (OpV.takeCall rfl rfl rfl rfl (fun H hs=> .f ca128 rfl (taken_c M H s hsm.1 (by omega)))) ?_
             refine Ta.tkwC 13 (by kernel_rfl) rfl rfl rfl (by decide) rfl rfl (OpV.take (.it (zz:=(by assumption)))) ?_
             refine Ta.tkwC 14 (by kernel_rfl) rfl rfl rfl (by decide) rfl rfl (OpV.take (.it (zz:=(by assumption)))) ?_
             refine Ta.lift (L₂:= [(bs,true,.cells ⟨[strV s]⟩ 9 (0,0)),(bx,true,.cells ⟨[strV s]⟩ 9 (0,0))]) (L₁:= [(b8,true,.cells ⟨[.int .i64 st.al]⟩ 29 (0,0)),(b7,true,.cells ⟨[.int .i64 st.total]⟩ 3 (0,0)),(b6,true,.cells ⟨[numV a2 n2 c2']⟩ 33 (0,0))]++g3.bl) rfl (fun Hx hx=> ?_)
             refine Ta.callF 15 (by kernel_rfl) rfl (by kernel_rfl) rfl rfl rfl rfl rfl rfl (by decide) (FnT.of (first:= []) (captured:= [_,_,_,_,_,_]) ca123 rfl (ihd g3 (l++[s]) _ st a2 n2 c2' H₂ Hx (by rw[hl3,p4.2.2.2,hg,strsV_app];rfl) (by rw[List.length_append];show l.length+1+d=nw;omega) (by rw[List.length_append];show _∧_≤3000*((l.length+1:Nat):Int);omega) (hcap0.le p1) p5 p6 hx)) (fun v H₃ hv=> ?_)
             obtain⟨_,H₄,g4,a4,n4,c4,r1,r2,r3,r4,r5⟩:=hv
             refine Ta.expand r2 ?_
             unfold stB
             refine Ta.done (by kernel_rfl) ?_
             refine .inBlock (.r ?_)
             refine .i ?_ (z:=add_in (by omega) (by omega))
             refine .m ?_
             refine .done ?_
             obtain⟨g5,s1,s2,s3,s4,s5⟩:=Gl.back (g:=g2) (g':=g4) [strV s] (r3.1.trans hb3) (by rw[r3.2.1,hn3];rfl) (by rw[r3.2.2.1,hc3]) (by rw[r3.2.2.2,hl3])
             rw[←s5]
             exact Tc.db (ih ⟨(H₄,i+1,_,g5,(a4,n4,c4)),View.le_trans p1 r1,by simp only;omega,p3,⟨s1.trans p4.1,s2.trans p4.2.1,s3.trans p4.2.2.1,s4.trans p4.2.2.2⟩,r4,r5⟩ (by simp only;omega))
           · refine Ta.permL (L₁:=([(bs,true,.cells ⟨[strV s]⟩ 9 (0,0)),(bx,true,.cells ⟨[strV s]⟩ 9 (0,0))]++g2.bl)++([(b8,true,.cells ⟨[.int .i64 st.al]⟩ 29 (0,0)),(b7,true,.cells ⟨[.int .i64 st.total]⟩ 3 (0,0)),(b6,true,.cells ⟨[numV a2 n2 c2']⟩ 33 (0,0))]++g3.bl)) ?_ ?_
             · simp only[List.cons_append,List.nil_append]
               refine .cons _ (.cons _ ?_)
               exact perm3 g2.bl _ _ _ g3.bl
             · refine Ta.tkwC 12 (by kernel_rfl) rfl rfl rfl (by decide) rfl rfl (OpV.takeCall rfl rfl rfl rfl (fun H hs=> .f ca128 rfl (taken_c M H s hsm.1 (by omega)))) ?_
               refine Ta.tkwC 13 (by kernel_rfl) rfl rfl rfl (by decide) rfl rfl (OpV.take (.it (zz:=(by assumption)))) ?_
               refine Ta.tkwC 14 (by kernel_rfl) rfl rfl rfl (by decide) rfl rfl (OpV.take (.it (zz:=(by assumption)))) ?_
               refine Ta.lift (L₂:= [(bs,true,.cells ⟨[strV s]⟩ 9 (0,0)),(bx,true,.cells ⟨[strV s]⟩ 9 (0,0))]++g2.bl) (L₁:= [(b8,true,.cells ⟨[.int .i64 st.al]⟩ 29 (0,0)),(b7,true,.cells ⟨[.int .i64 st.total]⟩ 3 (0,0)),(b6,true,.cells ⟨[numV a2 n2 c2']⟩ 33 (0,0))]++g3.bl) rfl (fun Hx hx=> ?_)
               refine Ta.callF 15 (by kernel_rfl) rfl (by kernel_rfl) rfl rfl rfl rfl rfl rfl (by decide) (FnT.of (first:= []) (captured:= [_,_,_,_,_,_]) ca123 rfl (ihd g3 (l++[s]) _ st a2 n2 c2' H₂ Hx (by rw[hl3,p4.2.2.2,hg,strsV_app];rfl) (by rw[List.length_append];show l.length+1+d=nw;omega) (by rw[List.length_append];show _∧_≤3000*((l.length+1:Nat):Int);omega) (hcap0.le p1) p5 p6 hx)) (fun v H₃ hv=> ?_)
               obtain⟨_,H₄,g4,a4,n4,c4,r1,r2,r3,r4,r5⟩:=hv
               refine Ta.expand r2 ?_
               unfold stB
               refine Ta.done (by kernel_rfl) ?_
               refine .inBlock (.r ?_)
               refine .i ?_ (z:=add_in (by omega) (by omega))
               refine .m ?_
               refine .done ?_
               have hfin:=ih ⟨(H₄,i+1,_,g2,(a4,n4,c4)),View.le_trans p1 r1,by simp only;omega,p3,p4,r4,r5⟩ (by simp only;omega)
               refine Tc.permL (perm4 _ _ g2.bl _ _ _ g4.bl) ?_
               exact Tc.db hfin
end
end Go.Proofs.YtdnfdeplcjaonaaGreatDoor
end
section
namespace Go.Proofs.YtdnfdeplcjaonaaGreatDoor
open Go.RL
set_option maxRecDepth 10000
theorem less_cons(a b:UInt8)(x y:List UInt8):Op.bytesLess (a::x) (b::y)=(decide (a<b)||(a==b&&Op.bytesLess x y)):=rfl
theorem less_nil(s:List UInt8):Op.bytesLess s []=false:=by cases s <;> rfl
theorem u8_lt {a b:UInt8}:a<b↔a.toNat<b.toNat:=UInt8.lt_iff_toNat_lt
theorem less_trans:∀ {a b c:List UInt8},Op.bytesLess a b=true→Op.bytesLess b c=true→Op.bytesLess a c=true
 | _,[],_,h,_=> by rw[less_nil] at h;cases h
 | _,_::_,[],_,h=> by rw[less_nil] at h;cases h
 | [],_::_,_::_,_,_=> rfl
 | p ::a,q::b,r::c,h,k=> by
   rw[less_cons] at h k ⊢
   simp only[Bool.or_eq_true,Bool.and_eq_true,decide_eq_true_eq,beq_iff_eq] at h k ⊢
   rcases h with h|⟨rfl,h⟩
   · rcases k with k|⟨rfl,_⟩
     · exact .inl (UInt8.lt_trans h k)
     · exact .inl h
   · rcases k with k|⟨rfl,k⟩
     · exact .inl k
     · exact .inr ⟨rfl,less_trans h k⟩
theorem less_tri:∀ {a b:List UInt8},Op.bytesLess a b=false→Op.bytesLess b a=false→a=b
 | [],[],_,_=> rfl
 | [],_::_,h,_=> by cases h
 | _::_,[],_,h=> by cases h
 | p ::a,q::b,h,k=> by
   rw[less_cons] at h k
   simp only[Bool.or_eq_false_iff,decide_eq_false_iff_not,Bool.and_eq_false_iff,beq_eq_false_iff_ne] at h k
   have e:p=q:=by
     have h1:=h.1
     have k1:=k.1
     rw[u8_lt] at h1 k1
     exact UInt8.toNat_inj.1 (by omega)
   subst e
   have h2:=h.2.resolve_left (fun h=> h rfl)
   have k2:=k.2.resolve_left (fun h=> h rfl)
   rw[less_tri h2 k2]
theorem less_asym {a b:List UInt8}(h:Op.bytesLess a b=true):Op.bytesLess b a=false:=by
 cases k:Op.bytesLess b a with
 | false=> rfl
 | true=>
   have:=less_trans h k
   rw[less_irr] at this
   cases this
def rankS(S:List (List UInt8))(s:List UInt8):Nat:=S.countP fun t=> Op.bytesLess t s
theorem rank_le {a b:List UInt8}(h:Op.bytesLess a b=true):∀S:List (List UInt8),rankS S a≤rankS S b
 | []=> Nat.le_refl _
 | t ::S=> by
   have:=rank_le h S
   unfold rankS at this ⊢
   rw[List.countP_cons,List.countP_cons]
   by_cases k:Op.bytesLess t a=true
   · rw[if_pos k,if_pos (less_trans k h)];omega
   · rw[if_neg k]
     split <;> omega
theorem rank_lt {a b:List UInt8}(h:Op.bytesLess a b=true):∀S:List (List UInt8),a∈S→rankS S a<rankS S b
 | t ::S,hm=> by
   have hle:=rank_le h S
   rcases List.mem_cons.1 hm with rfl|hm
   · unfold rankS at hle ⊢
     rw[List.countP_cons,List.countP_cons,if_neg (by rw[less_irr];decide),if_pos h]
     omega
   · have:=rank_lt h S hm
     unfold rankS at this ⊢
     rw[List.countP_cons,List.countP_cons]
     by_cases k:Op.bytesLess t a=true
     · rw[if_pos k,if_pos (less_trans k h)];omega
     · rw[if_neg k]
       split <;> omega
def decS(S:List (List UInt8))(z:Int):List UInt8:=(S.find? fun s=> decide ((rankS S s:Int)=z)).getD []
theorem dec_rank {S:List (List UInt8)}{s:List UInt8}(h:s∈S):decS S (rankS S s:Nat)=s:=by
 unfold decS
 cases hf:S.find? (fun t=> decide ((rankS S t:Int)=(rankS S s:Nat))) with
 | none=>
   have:=List.find?_eq_none.1 hf s h
   simp at this
 | some t=>
   have h1:=List.mem_of_find?_eq_some hf
   have h2:=List.find?_some hf
   simp only[decide_eq_true_eq,Int.natCast_inj] at h2
   show t=s
   cases k:Op.bytesLess t s with
   | true=> have:=rank_lt k S h1;omega
   | false=>
     cases k2:Op.bytesLess s t with
     | true=> have:=rank_lt k2 S h;omega
     | false=> exact less_tri k k2
def codesS(S:List (List UInt8)):List Int:=S.map fun s=> ((rankS S s:Nat):Int)
theorem codes_dec(S:List (List UInt8)):(codesS S).map (decS S)=S:=by
 unfold codesS
 rw[List.map_map]
 have:∀s∈S,(decS S∘fun s=> ((rankS S s:Nat):Int)) s=s:=fun s hs=> dec_rank hs
 rw[List.map_congr_left this,List.map_id']
theorem codes_enc(S:List (List UInt8)):Enc (decS S) (codesS S):=by
 intro x hx y hy
 obtain⟨s,hs,rfl⟩:=List.mem_map.1 hx
 obtain⟨t,ht,rfl⟩:=List.mem_map.1 hy
 rw[dec_rank hs,dec_rank ht]
 cases k:Op.bytesLess s t with
 | true=> exact(decide_eq_true (by have:=rank_lt k S hs;omega)).symm
 | false=>
   refine(decide_eq_false ?_).symm
   intro hlt
   cases k2:Op.bytesLess t s with
   | true=> have:=rank_lt k2 S ht;omega
   | false=>
     have:=less_tri k k2
     subst this
     omega
def leS(a b:List UInt8):Bool:=!Op.bytesLess b a
def insS(x:List UInt8):List (List UInt8)→List (List UInt8)
 | []=> [x]
 | y::t=> if leS x y then x::y::t else y::insS x t
def sortS:List (List UInt8)→List (List UInt8)
 | []=> []
 | x::t=> insS x (sortS t)
theorem insS_perm(x:List UInt8):∀l,(insS x l).Perm (x::l)
 | []=> .refl _
 | y::t=> by
   unfold insS
   split
   · exact .refl _
   · exact(List.Perm.cons y (insS_perm x t)).trans (.swap ..)
theorem sortS_perm:∀l,(sortS l).Perm l
 | []=> .refl _
 | x::t=> (insS_perm x _).trans (.cons x (sortS_perm t))
theorem leS_trans {a b c:List UInt8}(h:leS a b=true)(k:leS b c=true):leS a c=true:=by
 unfold leS at *
 simp only[Bool.not_eq_true'] at *
 cases e:Op.bytesLess c a with
 | false=> rfl
 | true=>
   cases e2:Op.bytesLess b c with
   | true=> rw[less_trans e2 e] at h;cases h
   | false=>
     have:=less_tri e2 k
     subst this
     rw[e] at h
     cases h
theorem leS_total {a b:List UInt8}(h:leS a b=false):leS b a=true:=by
 unfold leS at *
 simp only[Bool.not_eq_true',Bool.not_eq_false'] at *
 exact less_asym h
theorem insS_sorted(x:List UInt8):∀l:List (List UInt8),l.Pairwise (fun a b=> leS a b=true)→(insS x l).Pairwise (fun a b=> leS a b=true)
 | [],_=> List.pairwise_singleton _ _
 | y ::t,h=> by
   obtain⟨h1,h2⟩:=List.pairwise_cons.1 h
   unfold insS
   split
   · rename_i hx
     refine List.pairwise_cons.2 ⟨fun z hz=> ?_,h⟩
     rcases List.mem_cons.1 hz with rfl|hz
     · exact hx
     · exact leS_trans hx (h1 z hz)
   · rename_i hx
     refine List.pairwise_cons.2 ⟨fun z hz=> ?_,insS_sorted x t h2⟩
     rcases List.mem_cons.1 ((insS_perm x t).mem_iff.1 hz) with rfl|hz
     · exact leS_total (by simpa using hx)
     · exact h1 z hz
theorem sortS_sorted:∀l:List (List UInt8),(sortS l).Pairwise (fun a b=> leS a b=true)
 | []=> List.Pairwise.nil
 | x::t=> insS_sorted x _ (sortS_sorted t)
theorem sorted_uniq {l m:List (List UInt8)}(h:l.Perm m)(hl:l.Pairwise (fun a b=> leS a b=true))(hm:m.Pairwise (fun a b=> leS a b=true)):l=m:=
 List.Perm.eq_of_pairwise (le:=fun a b=> leS a b=true) (fun a b _ _ h1 h2=> by
   unfold leS at h1 h2
   simp only[Bool.not_eq_true'] at h1 h2
   exact less_tri h2 h1) hl hm h
theorem codes_sorted {S:List (List UInt8)}{m:List Int}{n:Nat}(hn:n=S.length)(ht:Turned 0 n (codesS S) m)(hs:Srt 0 n m):m.map (decS S)=sortS S:=by
 have hpm:m.Perm (codesS S):=List.perm_iff_count.2 ht.cnt
 have hp:(m.map (decS S)).Perm S:=by
   have:=hpm.map (decS S)
   rwa [codes_dec] at this
 refine sorted_uniq (hp.trans (sortS_perm S).symm) ?_ (sortS_sorted S)
 rw[List.pairwise_map,List.pairwise_iff_getElem]
 intro i j hi hj hij
 have hml:m.length=n:=by rw[ht.len,hn];simp[codesS]
 have h1:=hs i j (Nat.zero_le _) hij (by omega)
 unfold at0 at h1
 rw[List.getElem?_eq_getElem hi,List.getElem?_eq_getElem hj] at h1
 simp only[Option.getD_some] at h1
 have h2:=(codes_enc S).turned ht m[j] (List.getElem_mem hj) m[i] (List.getElem_mem hi)
 unfold leS
 rw[h2,decide_eq_false (by omega)]
 rfl
theorem strsL_codes(S:List (List UInt8)):strsL (decS S) (codesS S)=S.map strV:=by
 have:=congrArg (List.map strV) (codes_dec S)
 rw[List.map_map] at this
 exact this
theorem strsL_map(dec:Int→List UInt8)(m:List Int):strsL dec m=(m.map dec).map strV:=by
 rw[List.map_map]
 rfl
end Go.Proofs.YtdnfdeplcjaonaaGreatDoor
end
section
namespace Go.Proofs.YtdnfdeplcjaonaaGreatDoor
open Go.RL
set_option maxRecDepth 10000
set_option maxHeartbeats 16000000
def digs1:List UInt8:= [49,50,51,52,53,54,55,56,57]
def canTo(most n:Nat):List (List UInt8):=(List.range n).flatMap fun i=> allL (digs1.take most) (i+1)
theorem canTo_succ(most n:Nat):canTo most (n+1)=canTo most n++allL (digs1.take most) (n+1):=by
 unfold canTo
 rw[List.range_succ,List.flatMap_append]
 simp
theorem allFrom_len(dg:List UInt8):∀(d:Nat) (s:List UInt8),(allFrom dg d s).length=dg.length ^ d
 | 0,_=> rfl
 | d+1,s=> by
   unfold allFrom
   rw[List.length_flatMap]
   have:∀x∈dg,(fun x=> (allFrom dg d (s++[x])).length) x=(fun _=> dg.length ^ d) x:=fun x _=> allFrom_len dg d _
   rw[List.map_congr_left this,List.map_const',List.sum_replicate_nat,Nat.pow_succ,Nat.mul_comm]
theorem allL_len {most n:Nat}(hm:most≤3)(hn:n≤3):(allL (digs1.take most) n).length≤27:=by
 unfold allL
 rw[allFrom_len]
 have hl:(digs1.take most).length≤3:=by rw[List.length_take];omega
 calc (digs1.take most).length ^ n≤3 ^ n:=Nat.pow_le_pow_left hl n
   _≤3 ^ 3:=Nat.pow_le_pow_right (by decide) hn
   _=27:=by decide
theorem canTo_len {most:Nat}(hm:most≤3):∀n,n≤3→(canTo most n).length≤27*n
 | 0,_=> Nat.le_refl _
 | n+1,h=> by
   rw[canTo_succ,List.length_append]
   have h1:=canTo_len hm n (by omega)
   have h2:=allL_len hm h
   omega
theorem digs1_dig(most:Nat):(digs1.take most).all dig=true:=by
 have h:digs1.all dig=true:=by decide +kernel
 exact List.all_eq_true.2 fun x hx=> List.all_eq_true.1 h x (List.mem_of_mem_take hx)
theorem mem_canTo {most n:Nat}{s:List UInt8}(h:s∈canTo most n)(hn:n≤3):s.all dig=true∧s.length≤3:=by
 obtain⟨i,hi,h2⟩:=List.mem_flatMap.1 h
 obtain⟨h3,h4⟩:=mem_allL h2
 have:=List.mem_range.1 hi
 exact⟨List.all_eq_true.2 fun y hy=> List.all_eq_true.1 (digs1_dig most) y (h4 y hy),by omega⟩
theorem perm5(a b c d e f:Nat×Bool×Obj)(B:Bl):(a::b::c::d::e::f::B).Perm (c::d::e::a::b::f::B):=by
 have h1:([a,b]++c::(d::e::f::B)).Perm (c::([a,b]++d::e::f::B)):=List.perm_middle
 have h2:([a,b]++d::(e::f::B)).Perm (d::([a,b]++e::f::B)):=List.perm_middle
 have h3:([a,b]++e::(f::B)).Perm (e::([a,b]++f::B)):=List.perm_middle
 exact h1.trans (.cons _ (h2.trans (.cons _ h3)))
def cheap(w:Nat→Int)(nw digits most:Nat):ChSt:=cheapGo (sortS (canTo most digits)) w nw [] 0 ⟨false,0,[]⟩
def cheapV(num:Value)(t a:Int):Value:=.tuple ⟨[num,.int .i64 t,.int .i64 a]⟩
section
variable(M:Md Tryz.prog)(H:View)
theorem Cheapest_c(A:Option Addr)(nw wc:Nat)(w:Nat→Int)(hA:FreeAt H A nw w)(digits most:Nat)(h0:1≤(nw:Int)∧(nw:Int)≤3)(hw:(firstTo (fun j=> !weightOk (w j)) nw).isSome=false)(hd:1≤((digits:Nat):Int)∧((digits:Nat):Int)≤3)(hm:1≤((most:Nat):Int)∧((most:Nat):Int)≤3)(h12:(canTo most digits).length≤12):
   CallT M 53 #[.slice A nw wc,.int .i64 (digits:Nat),.int .i64 (most:Nat)] H (fun v H'=> H.le H'∧∃a n c',v=cheapV (.slice a n c') (cheap w nw digits most).total (cheap w nw digits most).al∧n=(cheap w nw digits most).best.length∧SrcAt H' 1 (.slice a n c') n (strsV (cheap w nw digits most).best)):=by
 have hc:=fun(H':View) (h':H.le H')=> ContainsI_c M H' A nw wc w (hA.le h') (by omega) (.func (.func 121) #[] #[]) (fun j=> !weightOk (w j)) (fun j _ H'' _=> .f ca121 rfl (weightBad_c M H'' (w j)))
 have hwok:∀i,i<nw→0≤w i∧w i≤99:=fun i hi=> by
   have h1:firstTo (fun j=> !weightOk (w j)) nw=none:=by
     cases hz:firstTo (fun j=> !weightOk (w j)) nw with
     | none=> rfl
     | some y=> rw[hz] at hw;cases hw
   have h2:=(firstTo_none _).1 h1 i hi
   unfold weightOk at h2
   simpa using h2
 refine CallT.enter (vs:= [.slice A nw wc,.int .i64 (digits:Nat),.int .i64 (most:Nat)]) Tryz.func53 rfl Tryz.ntmps53 (Nat.le_of_ble_eq_true rfl) (SymSt.nil _) fun St c cs hK=> ?_
 refine .sr ?_
 refine .e (.bx (zz:=fun b3=> ?_))
 refine .e (.al (zz:=fun b6=> ?_))
 refine .e (.al (zz:=fun b7=> ?_))
 refine .e (.al (zz:=fun b8=> ?_))
 refine .done (.seq (.block (.sr ?_)))
 refine .x (.ld 3) ?_
 refine .x .ln ?_
 refine .c rfl rfl rfl rfl (fun H hs=> .f ca82 rfl (between_is M H (nw:Nat) 1 3 true (decide_eq_true h0))) ?_
 refine .x .nt ?_
 refine .g ?_
 refine .done (.ff rfl (.seq (.sr ?_)))
 refine .x (.ld 3) ?_
 refine .c rfl rfl rfl rfl (fun H hs=> .f ca120 rfl (isB (hc H hs.base) hw)) ?_
 refine .g ?_
 refine .done (.ff rfl (.sr ?_))
 refine .m ?_
 refine .c rfl rfl rfl rfl (fun H hs=> .f ca82 rfl (between_is M H (digits:Nat) 1 3 true (decide_eq_true hd))) ?_
 refine .x .nt ?_
 refine .g ?_
 refine .done (.ff rfl (.r ?_))
 refine .m ?_
 refine .c rfl rfl rfl rfl (fun H hs=> .f ca82 rfl (between_is M H (most:Nat) 1 3 true (decide_eq_true hm))) ?_
 refine .x .nt ?_
 refine .g ?_
 refine .done (.ff rfl (.skip (.inBlock (.sr ?_))))
 refine .e (.al (zz:=fun b9=> ?_))
 refine .done (.seq (.sr ?_))
 refine .m ?_
 refine .m ?_
 refine .done (.block ?_)
 refine Tc.db (Tc.loopB (σ:= { y:View×Nat×Gl 9 1//H.le y.1∧y.2.1≤digits∧y.2.2.l=strsV (canTo most y.2.1)∧y.2.2.n=(canTo most y.2.1).length })
   (fun y=> (y.1.1,[(2,.int .i64 (most:Nat)),(3,.pointer (some ⟨b3,0,none⟩)),(6,.pointer (some ⟨b6,0,none⟩)),(7,.pointer (some ⟨b7,0,none⟩)),(8,.pointer (some ⟨b8,0,none⟩)),(9,.pointer (some ⟨b9,0,none⟩)),(26,.int .i64 (digits:Nat)),(27,.int .i64 (y.1.2.1:Nat))],
     [(b9,true,.cells ⟨[y.1.2.2.val]⟩ 33 (0,0)),(b8,true,.cells ⟨[.int .i64 0]⟩ 29 (0,0)),(b7,true,.cells ⟨[.int .i64 0]⟩ 3 (0,0)),(b6,true,.cells ⟨[.slice none 0 0]⟩ 33 (0,0)),(b3,true,.cells ⟨[.slice A nw wc]⟩ 26 (0,0))]++y.1.2.2.bl)) (fun y=> digits-y.1.2.1) ?_ ⟨(H,0,Gl.nil 9 1),View.le_refl _,Nat.zero_le _,rfl,rfl⟩)
 rintro⟨⟨H₁,i,g⟩,g1,g2,g3,g4⟩ ih
 simp only at g1 g2 g3 g4
 show Tc M St _ _ H₁ _ [(2,.int .i64 (most:Nat)),(3,.pointer (some ⟨b3,0,none⟩)),(6,.pointer (some ⟨b6,0,none⟩)),(7,.pointer (some ⟨b7,0,none⟩)),(8,.pointer (some ⟨b8,0,none⟩)),(9,.pointer (some ⟨b9,0,none⟩)),(26,.int .i64 (digits:Nat)),(27,.int .i64 (i:Nat))]
     ([(b9,true,.cells ⟨[g.val]⟩ 33 (0,0)),(b8,true,.cells ⟨[.int .i64 0]⟩ 29 (0,0)),(b7,true,.cells ⟨[.int .i64 0]⟩ 3 (0,0)),(b6,true,.cells ⟨[.slice none 0 0]⟩ 33 (0,0)),(b3,true,.cells ⟨[.slice A nw wc]⟩ 26 (0,0))]++g.bl) _ _
 have hcl:=canTo_len (most:=most) (by omega) i (by omega)
 by_cases c1:i=digits
 · subst c1
   refine .sr ?_
   refine .i ?_ (z:=lss_f (by omega))
   refine .done (.seq (.ff rfl (.exit rfl (.sr ?_))))
   refine .x (.ld 0) ?_
   refine .e (Or.sortSGl (dec:=decS (canTo most i)) (L1:= [(b9,true,.cells ⟨[g.val]⟩ 33 (0,0)),(b8,true,.cells ⟨[.int .i64 0]⟩ 29 (0,0)),(b7,true,.cells ⟨[.int .i64 0]⟩ 3 (0,0)),(b6,true,.cells ⟨[.slice none 0 0]⟩ 33 (0,0)),(b3,true,.cells ⟨[.slice A nw wc]⟩ 26 (0,0))]) g (codesS (canTo most i)) (g3.trans (strsL_codes _).symm) (codes_enc _) (by omega) rfl rfl rfl rfl rfl (by decide) (fun H Q h=> .f ca91 rfl h) (fun g' m hv' hn' hb' hl' ht hs'=> ?_))
   rw[←hv']
   have hso:=codes_sorted g4 ht hs'
   have hl2:g'.l=strsV (sortS (canTo most i)):=by rw[hl',strsL_map,hso];rfl
   have hslen:(sortS (canTo most i)).length=(canTo most i).length:=(sortS_perm _).length_eq
   clear hl' ht hs' hso hv'
   refine .done (.sr ?_)
   refine .e (.st 1 (zz:=?_))
   refine .done (.sr ?_)
   refine .e (.al (zz:=fun b11=> ?_))
   refine .done (.sr ?_)
   refine .x .mf ?_
   refine .e (.st 0 (zz:=?_))
   refine .done (.sr ?_)
   refine .x (.ld 0) ?_
   refine To.lift (L₂:= []) (L₁:= [(b11,true,.cells ⟨[cheapF b8 b7 b3 b6 b9 b11]⟩ 171 (0,0)),(b9,true,.cells ⟨[g'.val]⟩ 33 (0,0)),(b8,true,.cells ⟨[.int .i64 9]⟩ 29 (0,0)),(b7,true,.cells ⟨[.int .i64 0]⟩ 3 (0,0)),(b6,true,.cells ⟨[.slice none 0 0]⟩ 33 (0,0)),(b3,true,.cells ⟨[.slice A nw wc]⟩ 26 (0,0))]++g'.bl) rfl (fun Hx hx=> ?_)
   obtain⟨H',h1,h2⟩:=SymSt.unappend (B:= [(b8,true,.cells ⟨[.int .i64 9]⟩ 29 (0,0)),(b7,true,.cells ⟨[.int .i64 0]⟩ 3 (0,0)),(b6,true,.cells ⟨[.slice none 0 0]⟩ 33 (0,0))]) (L:= [(b11,true,.cells ⟨[cheapF b8 b7 b3 b6 b9 b11]⟩ 171 (0,0)),(b9,true,.cells ⟨[g'.val]⟩ 33 (0,0)),(b3,true,.cells ⟨[.slice A nw wc]⟩ 26 (0,0))]++g'.bl) (hx.perm (by
     simp only[List.cons_append,List.nil_append]
     exact(perm5 _ _ _ _ _ _ _).symm))
   have hcap:ChCap (sortS (canTo most i)) w nw b8 b7 b3 b6 b9 b11 (g'.blk.map fun b=> ⟨b,0,none⟩) A g'.cap wc H':=
     ⟨⟨true,h2.get (i:=0) rfl⟩,⟨true,by have h3:=h2.get (i:=1) rfl;rw[hslen,←g4,←hn'];exact h3⟩,⟨true,h2.get (i:=2) rfl⟩,by
       have h3:=strs_of (g0:=g') g' (H:=H') (fun x hx=> h2.at_ x (List.mem_append_right _ hx)) hl2 rfl rfl
       rw[hn',g4,←hslen] at h3
       exact h3,(hA.le g1).le h2.base⟩
   refine To.callF rfl rfl rfl rfl rfl rfl (by decide) (FnT.of (first:= []) (captured:= [_,_,_,_,_,_]) ca123 rfl (more2_c M (sortS (canTo most i)) w nw b8 b7 b3 b6 b9 b11 (g'.blk.map fun b=> ⟨b,0,none⟩) A g'.cap wc (by omega) (by rw[hslen];omega) (fun s hs=> mem_canTo ((sortS_perm _).mem_iff.1 hs) (by omega)) hwok nw (Gl.nil 9 1) [] 0 ⟨false,0,[]⟩ none 0 0 H' Hx rfl (Nat.zero_add _) (by decide) hcap rfl ⟨⟨_,_,rfl⟩,rfl,.inl ⟨none,0,rfl,rfl⟩⟩ h1)) (fun v H₃ hv=> ?_)
   obtain⟨_,H₄,g4',a4,n4,c4,r1,r2,r3,r4,r5⟩:=hv
   refine To.expand r2 ?_
   unfold stB
   refine .done (.seq ?_)
   refine Tc.dr [] [] mixed rfl ?_
   refine .q 0 rfl (.ld 2) ?_
   refine .q 1 rfl (.ld 1) ?_
   refine .q 2 rfl (.ld 0) ?_
   refine Ta.each [3] (by kernel_rfl) rfl ⟨TaOp.mk rfl rfl rfl (.st 2 (zz:=⟨S2.mk (by exact List.Sublist.refl _) (.inr (by exact List.Sublist.refl _)),?_⟩)),trivial⟩
   refine Ta.each [4] (by kernel_rfl) rfl ⟨TaOp.mk rfl rfl rfl (.st 1 (zz:=⟨S2.mk (by exact List.Sublist.refl _) (.inr (by exact List.Sublist.refl _)),?_⟩)),trivial⟩
   refine Ta.each [5] (by kernel_rfl) rfl ⟨TaOp.mk rfl rfl rfl (.st 0 (zz:=⟨S2.mk (by exact List.Sublist.refl _) (.inr (by exact List.Sublist.refl _)),?_⟩)),trivial⟩
   refine Ta.done (by kernel_rfl) ?_
   refine Tc.retN (E:=en) hK Tryz.func53 Tryz.results53 (vs:= [_,_,_]) (by refine⟨⟨2,_,_,_,_,_,_,_,rfl,rfl,rfl,rfl⟩,?_⟩;refine⟨⟨1,_,_,_,_,_,_,_,rfl,rfl,rfl,rfl⟩,?_⟩;refine⟨⟨0,_,_,_,_,_,_,_,rfl,rfl,rfl,rfl⟩,?_⟩;exact trivial) ?_
   exact fun H' hs=> ⟨View.le_trans g1 (View.le_trans h2.base (View.le_trans r1 hs.base)),a4,n4,c4,rfl,r4,r5.mono hs.base⟩
 · have c2:i<digits:=by omega
   have hal:=allL_len (most:=most) (n:=i+1) (by omega) (by omega)
   have hlc:([49,50,51,52,53,54,55,56,57]:List UInt8).length=9:=rfl
   have hdl:(digs1.take most).length≤1000:=by rw[List.length_take];omega
   refine .sr ?_
   refine .i ?_ (z:=lss_t (by omega))
   refine .done (.seq (.tt rfl (.skip (.seq (.block (.sr ?_))))))
   refine .m ?_
   refine .g ?_
   refine .done ?_
   refine Tc.drT [7] [6] [0] 5 mixed rfl ?_
   refine Ta.tkC 0 (by kernel_rfl) rfl rfl (by decide) rfl rfl (OpV.take (.ld 0)) ?_
   refine Ta.tkC 1 (by kernel_rfl) rfl rfl (by decide) rfl rfl (OpV.take .mv) ?_
   refine Ta.tkC 2 (by kernel_rfl) rfl rfl (by decide) rfl rfl (OpV.take (.it (zz:=add_in (by omega) (by omega)))) ?_
   refine Ta.tkC 3 (by kernel_rfl) rfl rfl (by decide) rfl rfl (OpV.take .mv) ?_
   refine Ta.tkC 4 (by kernel_rfl) rfl rfl (by decide) rfl rfl (OpV.take (OpV.sliceS (E:=en) rfl rfl rfl rfl rfl rfl (by omega) (by omega) (by omega))) ?_
   refine Ta.each [5] (by kernel_rfl) rfl ⟨TaOp.mk rfl rfl rfl (Or.callNew (fun s=> allF s.1.1 s.1.2) (allB2 (i+1) (digs1.take most)) (fun _=> True) rfl rfl rfl rfl rfl (by decide) (allB2_nodup _ _) (fun H hs=> .f ca116 rfl (all_n M H (i+1) (digs1.take most))) (fun s _=> ⟨S3.mk (by apply List.Sublist.cons;exact List.sublist_append_left _ _) (.inr (by exact List.sublist_append_left _ _)),?_⟩)),trivial⟩
   refine Ta.lift (L₂:= [(b9,true,.cells ⟨[g.val]⟩ 33 (0,0)),(b8,true,.cells ⟨[.int .i64 0]⟩ 29 (0,0)),(b7,true,.cells ⟨[.int .i64 0]⟩ 3 (0,0)),(b6,true,.cells ⟨[.slice none 0 0]⟩ 33 (0,0)),(b3,true,.cells ⟨[.slice A nw wc]⟩ 26 (0,0))]) (L₁:=g.bl++allB2 (i+1) (digs1.take most) s) rfl (fun Hx hx=> ?_);obtain⟨H',h1,h2⟩:=hx.unappend
   refine Ta.callF 6 (by kernel_rfl) rfl (by kernel_rfl) rfl rfl rfl rfl rfl rfl (by decide) (FnT.f ca122 rfl (AppendSeq_c M g (canTo most i) g3 (by omega) (i+1) (digs1.take most) (by omega) (digs1_dig most) hdl (by omega) s.1.1 s.1.2 H' Hx ⟨⟨true,h2.get (i:=0) rfl⟩,⟨true,h2.get (i:=1) rfl⟩⟩ h1)) (fun v H₃ hv=> ?_)
   obtain⟨g',H₂,rfl,q1,q2,q3,q4⟩:=hv
   refine Ta.expand q2 ?_
   refine Ta.each [7] (by kernel_rfl) rfl ⟨TaOp.mk rfl rfl rfl (.st 0 (zz:=⟨S3.off (by kernel_rfl),?_⟩)),trivial⟩
   refine Ta.done (by kernel_rfl) ?_
   refine .inBlock (.r ?_)
   refine .i ?_ (z:=add_in (by omega) (by omega))
   refine .m ?_
   refine .done ?_
   exact Tc.db (ih ⟨(H₂,i+1,g'),View.le_trans g1 (View.le_trans h2.base q1),by simp only;omega,by simp only;rw[canTo_succ];exact q3,by simp only;rw[canTo_succ,List.length_append,q4,g4]⟩ (by simp only;omega))
end
end Go.Proofs.YtdnfdeplcjaonaaGreatDoor
end
section
namespace Go.Proofs.YtdnfdeplcjaonaaGreatDoor
open Go.RL
set_option maxRecDepth 10000
theorem ddTo_mem {l:List Int}{x:Int}:∀k,k≤l.length→(x∈ddTo l k↔∃i,i<k∧at0 l i=x)
 | 0,_=> by simp[ddTo]
 | k + 1,hk=> by
   have ih:=ddTo_mem (l:=l) (x:=x) k (by omega)
   unfold ddTo
   split
   · rename_i h
     rw[ih]
     constructor
     · rintro⟨i,h1,h2⟩
       exact⟨i,by omega,h2⟩
     · rintro⟨i,h1,h2⟩
       by_cases e:i=k
       · subst e
         exact⟨i-1,by omega,by rw[←h.2];exact h2⟩
       · exact⟨i,by omega,h2⟩
   · rw[List.mem_append,ih,List.mem_singleton]
     constructor
     · rintro(⟨i,h1,h2⟩|rfl)
       · exact⟨i,by omega,h2⟩
       · exact⟨k,by omega,rfl⟩
     · rintro⟨i,h1,h2⟩
       by_cases e:i=k
       · subst e;exact .inr h2.symm
       · exact .inl ⟨i,by omega,h2⟩
theorem ddTo_asc {l:List Int}{n:Nat}(hs:Srt 0 n l)(hn:n≤l.length):∀k,k≤n→(ddTo l k).Pairwise (· < ·)
 | 0,_=> List.Pairwise.nil
 | k + 1,hk=> by
   have ih:=ddTo_asc hs hn k (by omega)
   unfold ddTo
   split
   · exact ih
   · rename_i h
     rw[List.pairwise_append]
     refine⟨ih,List.pairwise_singleton _ _,fun a ha b hb=> ?_⟩
     have hb':b=at0 l k:=by simpa using hb
     subst hb'
     obtain⟨i,h1,rfl⟩:=(ddTo_mem k (by omega)).1 ha
     have h2:=hs i (k-1) (Nat.zero_le _)
     have h3:=hs (k-1) k (Nat.zero_le _) (by omega) (by omega)
     have h4:at0 l k≠at0 l (k-1):=fun e=> h ⟨by omega,e⟩
     by_cases e:i=k-1
     · subst e;omega
     · have:=h2 (by omega) (by omega);omega
theorem Srt.at_mem {l:List Int}{x:Int}:x∈l↔∃i,i<l.length∧at0 l i=x:=by
 rw[List.mem_iff_getElem]
 constructor
 · rintro⟨i,h,rfl⟩
   exact⟨i,h,by unfold at0;rw[List.getElem?_eq_getElem h];rfl⟩
 · rintro⟨i,h,e⟩
   refine⟨i,h,?_⟩
   unfold at0 at e
   rw[List.getElem?_eq_getElem h] at e
   exact e
theorem asc_uniq {l m:List Int}(hl:l.Pairwise (· < ·))(hm:m.Pairwise (· < ·))(h:∀x,x∈l↔x∈m):l=m:=by
 have hp:l.Perm m:=(List.perm_ext_iff_of_nodup (List.nodup_iff_pairwise_ne.2 (hl.imp (fun h=> Int.ne_of_lt h))) (List.nodup_iff_pairwise_ne.2 (hm.imp (fun h=> Int.ne_of_lt h)))).2 h
 exact List.Perm.eq_of_pairwise (le:=(· ≤·)) (fun a b _ _ h1 h2=> Int.le_antisymm h1 h2) (hl.imp (fun h=> Int.le_of_lt h)) (hm.imp (fun h=> Int.le_of_lt h)) hp
def AscS(l:List (List UInt8)):Prop:=l.Pairwise fun a b=> Op.bytesLess a b=true
theorem ascS_uniq {l m:List (List UInt8)}(hl:AscS l)(hm:AscS m)(h:∀x,x∈l↔x∈m):l=m:=by
 have ne:∀ {a b:List UInt8},Op.bytesLess a b=true→a≠b:=fun h e=> by rw[e,less_irr] at h;cases h
 have hp:l.Perm m:=(List.perm_ext_iff_of_nodup (List.nodup_iff_pairwise_ne.2 (hl.imp ne)) (List.nodup_iff_pairwise_ne.2 (hm.imp ne))).2 h
 have le:∀ {a b:List UInt8},Op.bytesLess a b=true→leS a b=true:=fun h=> by unfold leS;rw[less_asym h];rfl
 exact sorted_uniq hp (hl.imp le) (hm.imp le)
def putS(x:List UInt8):List (List UInt8)→List (List UInt8)
 | []=> [x]
 | y::t=> if Op.bytesLess x y then x::y::t else if x=y then y::t else y::putS x t
def ascOf:List (List UInt8)→List (List UInt8)
 | []=> []
 | x::t=> putS x (ascOf t)
theorem mem_putS {x z:List UInt8}:∀l,z∈putS x l↔z=x∨z∈l
 | []=> by simp[putS]
 | y ::t=> by
   unfold putS
   split
   · simp
   · split
     · rename_i e
       subst e
       simp
     · rw[List.mem_cons,mem_putS t,List.mem_cons]
       constructor
       · rintro(h|h|h)
         · exact .inr (.inl h)
         · exact .inl h
         · exact .inr (.inr h)
       · rintro(h|h|h)
         · exact .inr (.inl h)
         · exact .inl h
         · exact .inr (.inr h)
theorem putS_asc(x:List UInt8):∀l,AscS l→AscS (putS x l)
 | [],_=> List.pairwise_singleton _ _
 | y ::t,h=> by
   obtain⟨h1,h2⟩:=List.pairwise_cons.1 h
   unfold putS
   split
   · rename_i hx
     refine List.pairwise_cons.2 ⟨fun z hz=> ?_,h⟩
     rcases List.mem_cons.1 hz with rfl|hz
     · exact hx
     · exact less_trans hx (h1 z hz)
   · rename_i hx
     split
     · exact h
     · rename_i hne
       refine List.pairwise_cons.2 ⟨fun z hz=> ?_,putS_asc x t h2⟩
       rcases(mem_putS t).1 hz with rfl|hz
       · cases e:Op.bytesLess y z with
         | true=> rfl
         | false=> exact(hne (less_tri (by simpa using hx) e)).elim
       · exact h1 z hz
theorem mem_ascOf {z:List UInt8}:∀l,z∈ascOf l↔z∈l
 | []=> Iff.rfl
 | x::t=> by
   unfold ascOf
   rw[mem_putS,mem_ascOf t,List.mem_cons]
theorem ascOf_asc:∀l,AscS (ascOf l)
 | []=> List.Pairwise.nil
 | x::t=> putS_asc x _ (ascOf_asc t)
theorem codes_asc {S:List (List UInt8)}{m:List Int}{n:Nat}(hn:n=S.length)(ht:Turned 0 n (codesS S) m)(hs:Srt 0 n m):(ddTo m n).map (decS S)=ascOf S:=by
 have hml:m.length=n:=by rw[ht.len,hn];simp[codesS]
 have hmem:∀x∈ddTo m n,x∈codesS S:=fun x hx=> by
   obtain⟨i,h1,rfl⟩:=(ddTo_mem n (by omega)).1 hx
   exact(ht.mem _).1 (at0_mem (by omega))
 refine ascS_uniq ?_ (ascOf_asc S) (fun z=> ?_)
 · unfold AscS
   rw[List.pairwise_map]
   have h1:=ddTo_asc hs (by omega) n (Nat.le_refl _)
   refine List.Pairwise.imp_of_mem (fun {a b} ha hb h3=> ?_) h1
   rw[codes_enc S a (hmem a ha) b (hmem b hb)]
   exact decide_eq_true h3
 · rw[mem_ascOf,List.mem_map]
   constructor
   · rintro⟨x,hx,rfl⟩
     obtain⟨s,h1,h2⟩:=List.mem_map.1 (hmem x hx)
     rw[←h2,dec_rank h1]
     exact h1
   · intro hz
     refine⟨((rankS S z:Nat):Int),?_,dec_rank hz⟩
     have h1:((rankS S z:Nat):Int)∈m:=(ht.mem _).2 (List.mem_map.2 ⟨z,hz,rfl⟩)
     obtain⟨i,h2,h3⟩:=Srt.at_mem.1 h1
     exact(ddTo_mem n (by omega)).2 ⟨i,by omega,h3⟩
theorem ascOf_congr {l m:List (List UInt8)}(h:∀x,x∈l↔x∈m):ascOf l=ascOf m:=
 ascS_uniq (ascOf_asc l) (ascOf_asc m) fun x=> by rw[mem_ascOf,mem_ascOf,h]
def putI(x:Int):List Int→List Int
 | []=> [x]
 | y::t=> if x<y then x::y::t else if x=y then y::t else y::putI x t
def ascI:List Int→List Int
 | []=> []
 | x::t=> putI x (ascI t)
theorem mem_putI {x z:Int}:∀l,z∈putI x l↔z=x∨z∈l
 | []=> by simp[putI]
 | y ::t=> by
   unfold putI
   split
   · simp
   · split
     · rename_i e
       subst e
       simp
     · rw[List.mem_cons,mem_putI t,List.mem_cons]
       constructor
       · rintro(h|h|h)
         · exact .inr (.inl h)
         · exact .inl h
         · exact .inr (.inr h)
       · rintro(h|h|h)
         · exact .inr (.inl h)
         · exact .inl h
         · exact .inr (.inr h)
theorem putI_asc(x:Int):∀l:List Int,l.Pairwise (· < ·)→(putI x l).Pairwise (· < ·)
 | [],_=> List.pairwise_singleton _ _
 | y ::t,h=> by
   obtain⟨h1,h2⟩:=List.pairwise_cons.1 h
   unfold putI
   split
   · rename_i hx
     refine List.pairwise_cons.2 ⟨fun z hz=> ?_,h⟩
     rcases List.mem_cons.1 hz with rfl|hz
     · exact hx
     · have:=h1 z hz;omega
   · rename_i hx
     split
     · exact h
     · rename_i hne
       refine List.pairwise_cons.2 ⟨fun z hz=> ?_,putI_asc x t h2⟩
       rcases(mem_putI t).1 hz with rfl|hz
       · omega
       · exact h1 z hz
theorem mem_ascI {z:Int}:∀l,z∈ascI l↔z∈l
 | []=> Iff.rfl
 | x::t=> by
   unfold ascI
   rw[mem_putI,mem_ascI t,List.mem_cons]
theorem ascI_asc:∀l,(ascI l).Pairwise (· < ·)
 | []=> List.Pairwise.nil
 | x::t=> putI_asc x _ (ascI_asc t)
theorem ints_asc {S m:List Int}{n:Nat}(hn:n=S.length)(ht:Turned 0 n S m)(hs:Srt 0 n m):ddTo m n=ascI S:=by
 have hml:m.length=n:=by rw[ht.len,hn]
 refine asc_uniq (ddTo_asc hs (by omega) n (Nat.le_refl _)) (ascI_asc S) (fun z=> ?_)
 rw[mem_ascI,ddTo_mem n (by omega),←ht.mem z,Srt.at_mem,hml]
end Go.Proofs.YtdnfdeplcjaonaaGreatDoor
end
section
namespace Go.Proofs.YtdnfdeplcjaonaaGreatDoor
open Go.RL
set_option maxRecDepth 10000
set_option maxHeartbeats 16000000
def Bk.heardL(k:Bk):List (List UInt8):=ascOf ((k.earsL k.nt).map (·.heard))
def wordsV(g:Gl 9 1)(a:Int):Value:=.tuple ⟨[g.val,.int .i64 a]⟩
theorem nodup_le {α:Type}:∀ {l m:List α},l.Nodup→(∀x∈l,x∈m)→l.length≤m.length
 | [],_,_,_=> Nat.zero_le _
 | x ::t,m,hn,hs=> by
   obtain⟨h1,h2⟩:=List.nodup_cons.1 hn
   obtain⟨a,b,rfl⟩:=List.append_of_mem (hs x (List.mem_cons_self ..))
   have:=nodup_le (l:=t) (m:=a++b) h2 (fun y hy=> by
     have:=hs y (List.mem_cons_of_mem _ hy)
     rcases List.mem_append.1 this with h|h
     · exact List.mem_append_left _ h
     · rcases List.mem_cons.1 h with rfl|h
       · exact(h1 hy).elim
       · exact List.mem_append_right _ h)
   simp only[List.length_append,List.length_cons] at this ⊢
   omega
theorem ears_size {k:Bk}{es:Array MapEntry}{cl n:Nat}(h:MapOk es cl (earF (k.earsS n))):es.size≤(k.earsL n).length:=by
 have hsub:∀x∈es.toList.map (·.key),x∈(k.earsL n).map Ear.val:=by
   intro x hx
   obtain⟨e,he,rfl⟩:=List.mem_map.1 hx
   obtain⟨y,h1,h2,_⟩:=earF_keys h e he
   exact List.mem_map.2 ⟨y,(k.mem_earsL n y).2 h1,h2.symm⟩
 have:=nodup_le h.keys hsub
 simpa using this
section
variable(M:Md Tryz.prog)(H:View)
theorem Heard_c(k:Bk)(A:Option Addr)(lc:Nat)(B:Option Addr)(tc:Nat)(hk:BkAt H k A lc B tc)(hn:k.small)(hG:Glob H)(ha:k.alarm=0)(h12:(k.earsL k.nt).length≤12):
   CallT M 23 #[k.val A lc B tc] H (fun v H'=> H.le H'∧∃g:Gl 9 1,v=wordsV g 0∧(g.n=k.heardL.length∧g.l=strsV k.heardL)∧∀x∈g.bl,H' x.1=some x.2∧H x.1=none):=by
 obtain⟨_,hnl,hnt,hok⟩:=Bk.valid ha
 have hop:=fun(H':View) (h':H.le H')=> open_yes M H' k A lc B tc (hk.le h') hn (glob_le hG h') ha
 refine CallT.enter (vs:= [k.val A lc B tc]) Tryz.func23 rfl Tryz.ntmps23 (Nat.le_of_ble_eq_true rfl) (SymSt.nil _) fun St c cs hK=> ?_
 refine .sr ?_
 refine .e (.bx (zz:=fun b1=> ?_))
 refine .g ?_
 refine .g ?_
 refine .done (.sr ?_)
 refine .x (.ld 0) ?_
 refine .c rfl rfl rfl rfl (fun H hs=> .f ca81 rfl (hop H hs.base)) ?_
 refine .m ?_
 refine .x .et ?_
 refine .x .et ?_
 refine .e (.al (zz:=fun b4=> ?_))
 refine .e (.st 0 (zz:=?_))
 refine .g ?_
 refine .done (.seq (.sr ?_))
 refine .m ?_
 refine .i ?_ (z:=neq_f (by omega))
 refine .done (.ff rfl (.skip (.sr ?_)))
 refine .g ?_
 refine .done (.seq (.sr ?_))
 refine .x (.ld 0) ?_
 refine .x .fa ?_
 refine .x (.ld 1) ?_
 refine .x .ln ?_
 refine To.callF rfl rfl rfl rfl rfl rfl (by decide) (FnT.f ca90 rfl (ears_c M H k A lc B tc hk.trains hok hnt k.nt (Nat.le_refl _))) (fun v H₂ hv=> ?_)
 obtain⟨hle,m,es,cl,rfl,⟨fm,q3⟩,q4⟩:=hv
 have hsz:=ears_size q4
 refine .e (Or.range (E:=en) (es:=es) (cl:=cl) rfl rfl (fun H hs=> ⟨fm,hs.base _ _ q3⟩) rfl rfl rfl (by decide) (fun it=> ?_))
 refine .done (.block ?_)
 refine Tc.db (Tc.loopInv (σ:= { s:Array Nat×List (List UInt8)×Gl 9 1//s.2.2.l=strsV s.2.1∧(unseen es s.1).length+s.2.1.length=es.size∧∀x,x∈(k.earsL k.nt).map (·.heard)↔(x∈s.2.1∨∃me∈unseen es s.1,∃e:Ear,me.key=e.val∧x=e.heard) })
   (fun s=> ([(1,.pointer (some ⟨b1,0,none⟩)),(4,.pointer (some ⟨b4,0,none⟩)),(6,s.1.2.2.val),(21,.pointer (some ⟨it,0,none⟩))],[(it,true,.mapIter (some m) cl s.1.1 cl),(b4,true,.cells ⟨(k.val A lc B tc).cells.toList⟩ 113 (0,0)),(b1,true,.cells ⟨(k.val A lc B tc).cells.toList⟩ 25 (0,0))]++s.1.2.2.bl)) (fun s=> (unseen es s.1.1).length) ?_ ⟨(#[],[],Gl.nil 9 1),rfl,by rw[unseen_start];simp,fun x=> by
     rw[unseen_start,List.mem_map]
     constructor
     · rintro⟨e,he,rfl⟩
       obtain⟨me,h1,h2,_⟩:=(q4.mem e.val (.bool true)).1 ⟨e,(k.mem_earsL _ e).1 he,rfl,rfl⟩
       exact .inr ⟨me,h1,e,h2,rfl⟩
     · rintro(h|⟨me,h1,e,h2,rfl⟩)
       · cases h
       · obtain⟨y,h3,h4,_⟩:=earF_keys q4 me h1
         rw[ear_inj (h2.symm.trans h4)]
         exact⟨y,(k.mem_earsL _ y).2 h3,rfl⟩⟩)
 rintro⟨⟨seen,dn,g⟩,p2,p3,p4⟩ ih
 simp only at p2 p3 p4
 show Tc M St _ _ H₂ _ [(1,.pointer (some ⟨b1,0,none⟩)),(4,.pointer (some ⟨b4,0,none⟩)),(6,g.val),(21,.pointer (some ⟨it,0,none⟩))] ([(it,true,.mapIter (some m) cl seen cl),(b4,true,.cells ⟨(k.val A lc B tc).cells.toList⟩ 113 (0,0)),(b1,true,.cells ⟨(k.val A lc B tc).cells.toList⟩ 25 (0,0))]++g.bl) _ _
 have hgn:g.n=dn.length:=by have:=g.hl;rw[p2,strsV_len] at this;omega
 refine .sr ?_
 refine .e (Or.next (es:=es) 0 rfl rfl rfl (fun H hs=> ⟨fm,hs.base _ _ q3⟩) q4.lt rfl (by decide) (fun me he hse=> ?_) (fun hall=> ?_))
 · have hp :=unseen_next q4.borns he hse
   obtain⟨e0,u1,u2,_⟩:=earF_keys q4 me he
   have hfind:=earF_find q4 he
   have hpl:=hp.length_eq
   rw[List.length_cons] at hpl
   refine .x .et ?_
   refine .done (.seq (.tt rfl (.skip (.block (.sr ?_)))))
   refine .e (Or.entry (es:=es) (e:=me) (st:=me.born) rfl rfl (fun H hs=> ⟨true,hs.get (i:=0) rfl⟩) (fun H hs=> ⟨fm,hs.base _ _ q3⟩) (by simp) hfind rfl (by decide) ?_)
   rw[u2]
   refine .x .et ?_
   refine .e (.al (zz:=fun b7=> ?_))
   refine .e (.st 0 (zz:=?_))
   refine .done (.r ?_)
   refine .m ?_
   refine .x .fa ?_
   refine .x (.ld 0) ?_
   refine .e (.bs (zz:=fun bs=> ?_))
   refine .e (Or.append (E:=en) 5 rfl rfl rfl rfl rfl rfl rfl rfl rfl rfl rfl rfl rfl rfl rfl (fun H hs=> SrcAt.of (hs.get (i:=0) rfl) (Nat.le_of_ble_eq_true rfl)) rfl (by omega) rfl (by decide) (fun g' hn2 hl2=> ?_))
   refine .g ?_
   refine .done (.inBlock ?_)
   exact Tc.db (ih ⟨(seen.push me.born,dn++[e0.heard],g'),by simp only;rw[hl2,p2,strsV_app];rfl,by simp only;rw[List.length_append,List.length_singleton];omega,fun x=> by
     rw[p4 x,List.mem_append,List.mem_singleton]
     constructor
     · rintro(h|⟨me',h1,e',h2,h5⟩)
       · exact .inl (.inl h)
       · rcases List.mem_cons.1 (hp.mem_iff.1 h1) with rfl|h6
         · rw[ear_inj (h2.symm.trans u2)] at h5
           exact .inl (.inr h5)
         · exact .inr ⟨me',h6,e',h2,h5⟩
     · rintro((h|h)|⟨me',h6,h7⟩)
       · exact .inl h
       · exact .inr ⟨me,hp.mem_iff.2 (List.mem_cons_self ..),e0,u2,h⟩
       · exact .inr ⟨me',hp.mem_iff.2 (List.mem_cons_of_mem _ h6),h7⟩⟩ (by simp only;omega))
 · have hnil:=unseen_done hall
   rw[hnil] at p3 p4
   simp only[List.not_mem_nil,false_and,exists_false,or_false] at p4
   rw[List.length_nil,Nat.zero_add] at p3
   have hheard:k.heardL=ascOf dn:=ascOf_congr p4
   refine .x .et ?_
   refine .done (.seq (.ff rfl (.exit rfl (.sr ?_))))
   refine .m ?_
   refine .e (Or.sortSGl (dec:=decS dn) (L1:= [(it,true,.mapIter (some m) cl seen cl),(b4,true,.cells ⟨(k.val A lc B tc).cells.toList⟩ 113 (0,0)),(b1,true,.cells ⟨(k.val A lc B tc).cells.toList⟩ 25 (0,0))]) g (codesS dn) (p2.trans (strsL_codes _).symm) (codes_enc _) (by omega) rfl rfl rfl rfl rfl (by decide) (fun H Q h=> .f ca91 rfl h) (fun g' mm hv' hn' hb' hl' ht hs'=> ?_))
   rw[←hv']
   rw[hgn] at ht hs' hn'
   have hfin:(ddTo mm dn.length).map (decS dn)=k.heardL:=by rw[hheard];exact codes_asc rfl ht hs'
   have hE':=(codes_enc dn).turned ht
   refine .done (.sr ?_)
   refine .m ?_
   refine .e (Or.compSGl (dec:=decS dn) (L1:= [(it,true,.mapIter (some m) cl seen cl),(b4,true,.cells ⟨(k.val A lc B tc).cells.toList⟩ 113 (0,0)),(b1,true,.cells ⟨(k.val A lc B tc).cells.toList⟩ 25 (0,0))]) g' mm hl' hE' (by omega) rfl rfl rfl rfl rfl (by decide) (fun H Q h=> .f ca92 rfl h) (fun g2 hn3 hl3=> ?_))
   rw[hn'] at hn3 hl3
   have hl4:g2.l=strsV k.heardL:=by rw[hl3,strsL_map,hfin];rfl
   have hn4:g2.n=k.heardL.length:=by rw[hn3,←hfin,List.length_map]
   refine .g ?_
   refine .g ?_
   refine .done ?_
   refine .rt hK Tryz.func23 Tryz.results23 [_,_] ?_
   exact fun H' hs=> ⟨View.le_trans hle hs.base,g2,rfl,⟨hn4,hl4⟩,fun x hx=> ⟨hs.at_ x (by simp[hx]),none_le hle (hs.out x (by simp[hx]))⟩⟩
def trainsL(s:List UInt8)(p:Int):List Value:=s.flatMap fun x=> [.int .i64 (pn x:Nat),.int .i64 (pn x:Nat),.int .i64 p,.int .i64 p]
end
end Go.Proofs.YtdnfdeplcjaonaaGreatDoor
end
section
namespace Go.Proofs.YtdnfdeplcjaonaaGreatDoor
open Go.RL
set_option maxRecDepth 10000
set_option maxHeartbeats 8000000
section
variable(M:Md Tryz.prog)(H:View)
theorem SameWords_c(A B:Option Addr)(n m ac bc:Nat)(x y:Nat→List UInt8)(hA:StrsAt H A n x)(hB:StrsAt H B m y)(hn:n≤1000000)(hm:m≤1000000)(t:Bool)(ht:(decide (n=m)&&allB (fun i=> decide (x i=y i)) n)=t):
   CallT M 25 #[.slice A n ac,.slice B m bc] H (fun v H'=> H.le H'∧v=.bool t):=by
 rw[←ht]
 clear ht
 refine CallT.enter (vs:= [.slice A n ac,.slice B m bc]) Tryz.func25 rfl Tryz.ntmps25 (Nat.le_of_ble_eq_true rfl) (SymSt.nil _) fun St c cs hK=> ?_
 by_cases c0:n=m
 · subst c0
   rw[decide_eq_true rfl,Bool.true_and] at hK
   refine .sr ?_
   refine .g ?_
   refine .done (.seq (.sr ?_))
   refine .m ?_
   refine .x .ln ?_
   refine .m ?_
   refine .x .ln ?_
   refine .i ?_ (z:=neq_f (by omega))
   refine .done (.ff rfl (.skip (.seq (.sr ?_))))
   refine .g ?_
   refine .done (.block ?_)
   refine Tc.db (Tc.loopInv (σ:= { j:Nat//j≤n∧∀i,i<j→x i=y i }) (fun j=> ([(0,.slice A n ac),(1,.slice B n bc),(5,.int .i64 (j.1:Nat))],[])) (fun j=> n-j.1) ?_ ⟨0,Nat.zero_le _,fun i hi=> by omega⟩)
   rintro⟨j,hj,hall⟩ ih
   show Tc M St _ _ _ _ [(0,.slice A n ac),(1,.slice B n bc),(5,.int .i64 (j:Nat))] [] _ _
   by_cases c1:j=n
   · have e:allB (fun i=> decide (x i=y i)) n=true:=(allB_iff n).2 (fun i hi=> decide_eq_true (hall i (by omega)))
     subst c1
     rw[e] at hK
     refine .seq (.sr ?_)
     refine .m ?_
     refine .m ?_
     refine .x .ln ?_
     refine .i ?_ (z:=lss_f (by omega))
     refine .done (.ff rfl (.exit rfl (.sr ?_)))
     refine .g ?_
     refine .done ?_
     refine .rt hK Tryz.func25 Tryz.results25 [_] ?_
     exact fun H' hs=> ⟨hs.base,rfl⟩
   · have c2:j<n:=by omega
     obtain h0|⟨ab,ao,fa,gs,gt,gz,rfl,hab,hal⟩:=hA
     · omega
     obtain h0|⟨bb,bo,fb,ks,kt,kz,rfl,hbb,hbl⟩:=hB
     · omega
     have f1:=hal j c2
     have f2:=hbl j c2
     by_cases c3:x j=y j
     · have f3:RL.strB .neq (x j) (y j)=some (.bool false):=by simp[RL.strB,c3]
       refine .seq (.sr ?_)
       refine .m ?_
       refine .m ?_
       refine .x .ln ?_
       refine .i ?_ (z:=lss_t (by omega))
       refine .done (.tt rfl (.skip (.seq (.block (.seq ?_)))))
       refine Tc.dr [] [] mixed rfl ?_
       refine .q 0 rfl .mv ?_
       refine .q 1 rfl .mv ?_
       refine .q 2 rfl .ia ?_
       refine .q 3 rfl .l0 ?_
       refine .q 4 rfl .mv ?_
       refine .q 5 rfl .mv ?_
       refine .q 6 rfl .ia ?_
       refine .q 7 rfl .l0 ?_
       refine .q 8 rfl (OpV.strB rfl rfl rfl (by assumption)) ?_
       refine Ta.done (by kernel_rfl) ?_
       refine .ff rfl (.skip (.inBlock (.r ?_)))
       refine .m ?_
       refine .i ?_ (z:=add_in (by omega) (by omega))
       refine .g ?_
       refine .done ?_
       exact Tc.db (ih ⟨j+1,by omega,fun i hi=> by by_cases e:i=j;exact e▸c3;exact hall i (by omega)⟩ (by simp only;omega))
     · have f3:RL.strB .neq (x j) (y j)=some (.bool true):=by simp[RL.strB,c3]
       have e:allB (fun i=> decide (x i=y i)) n=false:=allB_not c2 (decide_eq_false c3)
       rw[e] at hK
       refine .seq (.sr ?_)
       refine .m ?_
       refine .m ?_
       refine .x .ln ?_
       refine .i ?_ (z:=lss_t (by omega))
       refine .done (.tt rfl (.skip (.seq (.block (.seq ?_)))))
       refine Tc.dr [] [] mixed rfl ?_
       refine .q 0 rfl .mv ?_
       refine .q 1 rfl .mv ?_
       refine .q 2 rfl .ia ?_
       refine .q 3 rfl .l0 ?_
       refine .q 4 rfl .mv ?_
       refine .q 5 rfl .mv ?_
       refine .q 6 rfl .ia ?_
       refine .q 7 rfl .l0 ?_
       refine .q 8 rfl (OpV.strB rfl rfl rfl (by assumption)) ?_
       refine Ta.done (by kernel_rfl) ?_
       refine .tt rfl (.sr ?_)
       refine .g ?_
       refine .done ?_
       refine .rt hK Tryz.func25 Tryz.results25 [_] ?_
       exact fun H' hs=> ⟨hs.base,rfl⟩
 · rw[decide_eq_false c0,Bool.false_and] at hK
   refine .sr ?_
   refine .g ?_
   refine .done (.seq (.sr ?_))
   refine .m ?_
   refine .x .ln ?_
   refine .m ?_
   refine .x .ln ?_
   refine .i ?_ (z:=neq_t (by omega))
   refine .done (.tt rfl (.sr ?_))
   refine .g ?_
   refine .done ?_
   refine .rt hK Tryz.func25 Tryz.results25 [_] ?_
   exact fun H' hs=> ⟨hs.base,rfl⟩
theorem SameClaims_c(A B:Option Addr)(n m ac bc:Nat)(x y:Nat→Int)(hA:FreeAt H A n x)(hB:FreeAt H B m y)(hn:n≤1000000)(hm:m≤1000000)(t:Bool)(ht:(decide (n=m)&&allB (fun i=> decide (x i=y i)) n)=t):
   CallT M 28 #[.slice A n ac,.slice B m bc] H (fun v H'=> H.le H'∧v=.bool t):=by
 rw[←ht]
 clear ht
 refine CallT.enter (vs:= [.slice A n ac,.slice B m bc]) Tryz.func28 rfl Tryz.ntmps28 (Nat.le_of_ble_eq_true rfl) (SymSt.nil _) fun St c cs hK=> ?_
 by_cases c0:n=m
 · subst c0
   rw[decide_eq_true rfl,Bool.true_and] at hK
   refine .sr ?_
   refine .g ?_
   refine .done (.seq (.sr ?_))
   refine .m ?_
   refine .x .ln ?_
   refine .m ?_
   refine .x .ln ?_
   refine .i ?_ (z:=neq_f (by omega))
   refine .done (.ff rfl (.skip (.seq (.sr ?_))))
   refine .g ?_
   refine .done (.block ?_)
   refine Tc.db (Tc.loopInv (σ:= { j:Nat//j≤n∧∀i,i<j→x i=y i }) (fun j=> ([(0,.slice A n ac),(1,.slice B n bc),(5,.int .i64 (j.1:Nat))],[])) (fun j=> n-j.1) ?_ ⟨0,Nat.zero_le _,fun i hi=> by omega⟩)
   rintro⟨j,hj,hall⟩ ih
   show Tc M St _ _ _ _ [(0,.slice A n ac),(1,.slice B n bc),(5,.int .i64 (j:Nat))] [] _ _
   by_cases c1:j=n
   · have e:allB (fun i=> decide (x i=y i)) n=true:=(allB_iff n).2 (fun i hi=> decide_eq_true (hall i (by omega)))
     subst c1
     rw[e] at hK
     refine .seq (.sr ?_)
     refine .m ?_
     refine .m ?_
     refine .x .ln ?_
     refine .i ?_ (z:=lss_f (by omega))
     refine .done (.ff rfl (.exit rfl (.sr ?_)))
     refine .g ?_
     refine .done ?_
     refine .rt hK Tryz.func28 Tryz.results28 [_] ?_
     exact fun H' hs=> ⟨hs.base,rfl⟩
   · have c2:j<n:=by omega
     obtain h0|⟨ab,ao,fa,gs,gt,gz,rfl,hab,hal⟩:=hA
     · omega
     obtain h0|⟨bb,bo,fb,ks,kt,kz,rfl,hbb,hbl⟩:=hB
     · omega
     have f1:=hal j c2
     have f2:=hbl j c2
     by_cases c3:x j=y j
     · skip
       refine .seq (.sr ?_)
       refine .m ?_
       refine .m ?_
       refine .x .ln ?_
       refine .i ?_ (z:=lss_t (by omega))
       refine .done (.tt rfl (.skip (.seq (.block (.seq ?_)))))
       refine Tc.dr [] [] mixed rfl ?_
       refine .q 0 rfl .mv ?_
       refine .q 1 rfl .mv ?_
       refine .q 2 rfl .ia ?_
       refine .q 3 rfl .l0 ?_
       refine .q 4 rfl .mv ?_
       refine .q 5 rfl .mv ?_
       refine .q 6 rfl .ia ?_
       refine .q 7 rfl .l0 ?_
       refine .q 8 rfl (.it (zz:=neq_f (by omega))) ?_
       refine Ta.done (by kernel_rfl) ?_
       refine .ff rfl (.skip (.inBlock (.r ?_)))
       refine .m ?_
       refine .i ?_ (z:=add_in (by omega) (by omega))
       refine .g ?_
       refine .done ?_
       exact Tc.db (ih ⟨j+1,by omega,fun i hi=> by by_cases e:i=j;exact e▸c3;exact hall i (by omega)⟩ (by simp only;omega))
     · skip
       have e:allB (fun i=> decide (x i=y i)) n=false:=allB_not c2 (decide_eq_false c3)
       rw[e] at hK
       refine .seq (.sr ?_)
       refine .m ?_
       refine .m ?_
       refine .x .ln ?_
       refine .i ?_ (z:=lss_t (by omega))
       refine .done (.tt rfl (.skip (.seq (.block (.seq ?_)))))
       refine Tc.dr [] [] mixed rfl ?_
       refine .q 0 rfl .mv ?_
       refine .q 1 rfl .mv ?_
       refine .q 2 rfl .ia ?_
       refine .q 3 rfl .l0 ?_
       refine .q 4 rfl .mv ?_
       refine .q 5 rfl .mv ?_
       refine .q 6 rfl .ia ?_
       refine .q 7 rfl .l0 ?_
       refine .q 8 rfl (.it (zz:=neq_t (by omega))) ?_
       refine Ta.done (by kernel_rfl) ?_
       refine .tt rfl (.sr ?_)
       refine .g ?_
       refine .done ?_
       refine .rt hK Tryz.func28 Tryz.results28 [_] ?_
       exact fun H' hs=> ⟨hs.base,rfl⟩
 · rw[decide_eq_false c0,Bool.false_and] at hK
   refine .sr ?_
   refine .g ?_
   refine .done (.seq (.sr ?_))
   refine .m ?_
   refine .x .ln ?_
   refine .m ?_
   refine .x .ln ?_
   refine .i ?_ (z:=neq_t (by omega))
   refine .done (.tt rfl (.sr ?_))
   refine .g ?_
   refine .done ?_
   refine .rt hK Tryz.func28 Tryz.results28 [_] ?_
   exact fun H' hs=> ⟨hs.base,rfl⟩
theorem claims_c(A B:Option Addr)(n m ac bc:Nat)(x y:Nat→Int)(hA:FreeAt H A n x)(hB:FreeAt H B m y)(hn:n≤1000000)(hm:m≤1000000)(t:Bool)(ht:(decide (n=m)&&allB (fun i=> decide (x i=y i)) n)=t):
   CallT M 80 #[.slice A n ac,.slice B m bc] H (fun v H'=> H.le H'∧v=.bool t):=by
 refine CallT.enter (vs:= [.slice A n ac,.slice B m bc]) Tryz.func80 rfl Tryz.ntmps80 (Nat.le_of_ble_eq_true rfl) (SymSt.nil _) fun St c cs hK=> ?_
 refine .sr ?_
 refine .g ?_
 refine .done (.sr ?_)
 refine .m ?_
 refine .m ?_
 refine .c rfl rfl rfl rfl (fun H hs=> .f ca28 rfl (SameClaims_c M H A B n m ac bc x y (hA.le hs.base) (hB.le hs.base) hn hm t ht)) ?_
 refine .g ?_
 refine .done ?_
 refine .rt hK Tryz.func80 Tryz.results80 [_] ?_
 exact fun H' hs=> ⟨hs.base,rfl⟩
end
end Go.Proofs.YtdnfdeplcjaonaaGreatDoor
end
section
namespace Go.Proofs.YtdnfdeplcjaonaaGreatDoor
open Go.RL
set_option maxRecDepth 10000
set_option maxHeartbeats 8000000
section
variable(M:Md Tryz.prog)(H:View)
theorem In_c(x lo hi:Int)(t:Bool)(ht:decide (lo≤x∧x≤hi)=t):CallT M 44 #[.int .i64 x,.int .i64 lo,.int .i64 hi] H (fun v H'=> H.le H'∧v=.bool t):=by
 rw[←ht]
 refine CallT.enter (vs:= [.int .i64 x,.int .i64 lo,.int .i64 hi]) Tryz.func44 rfl Tryz.ntmps44 (Nat.le_of_ble_eq_true rfl) (SymSt.nil _) fun St c cs hK=> ?_
 by_cases c1:lo≤x
 all_goals by_cases c2:x≤hi
 all_goals
   refine .sr ?_
   refine .g ?_
   refine .done (.sr ?_)
   refine .m ?_
   refine .m ?_
   refine .i ?_ (z:=by first|exact geq_t (by omega)|exact geq_f (by omega))
   refine .m ?_
   first|(refine .sk ?_)|(refine .m ?_)
   first|(refine .sk ?_)|(refine .m ?_)
   first|(refine .sk ?_)|(refine .x (.it (zz:=(by first|exact leq_t (by omega)|exact leq_f (by omega)))) ?_)
   refine .x .pk ?_
   refine .g ?_
   refine .done ?_
   refine .rt hK Tryz.func44 Tryz.results44 [_] ?_
   exact fun H' hs=> ⟨hs.base,by simp[packV,c1,c2]⟩
theorem Inside_c(a b lo hi:Int)(t:Bool)(ht:decide (lo≤a∧a≤b∧b≤hi)=t):CallT M 155 #[bandV a b,.int .i64 lo,.int .i64 hi] H (fun v H'=> H.le H'∧v=.bool t):=by
 rw[←ht]
 refine CallT.enter (vs:= [bandV a b,.int .i64 lo,.int .i64 hi]) Tryz.func155 rfl Tryz.ntmps155 (Nat.le_of_ble_eq_true rfl) (SymSt.nil _) fun St c cs hK=> ?_
 by_cases c1:lo≤a
 all_goals by_cases c2:a≤b
 all_goals by_cases c3:b≤hi
 all_goals
   refine .sr ?_
   refine .e (.bx (zz:=fun b1=> ?_))
   refine .g ?_
   refine .done (.sr ?_)
   refine .x .fa ?_
   refine .x (.ld 0) ?_
   refine .x .fa ?_
   refine .x (.ld 0) ?_
   refine .i ?_ (z:=by first|exact leq_t (by omega)|exact leq_f (by omega))
   refine .m ?_
   first|(refine .sk ?_)|(refine .x .fa ?_)
   first|(refine .sk ?_)|((refine .x (.ld 0) ?_))
   first|(refine .sk ?_)|(refine .m ?_)
   first|(refine .sk ?_)|(refine .x (.it (zz:=(by first|exact geq_t (by omega)|exact geq_f (by omega)))) ?_)
   refine .x .pk ?_
   refine .m ?_
   first|(refine .sk ?_)|(refine .x .fa ?_)
   first|(refine .sk ?_)|((refine .x (.ld 0) ?_))
   first|(refine .sk ?_)|(refine .m ?_)
   first|(refine .sk ?_)|(refine .x (.it (zz:=(by first|exact leq_t (by omega)|exact leq_f (by omega)))) ?_)
   refine .x .pk ?_
   refine .g ?_
   refine .done ?_
   refine .rt hK Tryz.func155 Tryz.results155 [_] ?_
   exact fun H' hs=> ⟨hs.base,by simp[packV,c1,c2,c3]⟩
theorem IsClaim_c(x:Int)(t:Bool)(ht:claimOk x=t):CallT M 154 #[.int .i64 x] H (fun v H'=> H.le H'∧v=.bool t):=by
 rw[←ht]
 unfold claimOk
 refine CallT.enter (vs:= [.int .i64 x]) Tryz.func154 rfl Tryz.ntmps154 (Nat.le_of_ble_eq_true rfl) (SymSt.nil _) fun St c cs hK=> ?_
 by_cases c1:0≤x
 all_goals by_cases c2:x≤2
 all_goals try omega
 all_goals
   refine .sr ?_
   refine .g ?_
   refine .done (.sr ?_)
   refine .m ?_
   refine .i ?_ (z:=by first|exact geq_t (by omega)|exact geq_f (by omega))
   refine .m ?_
   first|(refine .sk ?_)|(refine .m ?_)
   first|(refine .sk ?_)|(refine .x (.it (zz:=(by first|exact leq_t (by omega)|exact leq_f (by omega)))) ?_)
   refine .x .pk ?_
   refine .g ?_
   refine .done ?_
   refine .rt hK Tryz.func154 Tryz.results154 [_] ?_
   exact fun H' hs=> ⟨hs.base,by simp[packV,c1,c2]⟩
theorem smallR_c(x:UInt8)(t:Bool)(ht:low x=t):CallT M 195 #[.int .u8 (x.toNat:Nat)] H (fun v H'=> H.le H'∧v=.bool t):=by
 rw[←ht]
 unfold low
 refine CallT.enter (vs:= [.int .u8 (x.toNat:Nat)]) Tryz.func195 rfl Tryz.ntmps195 (Nat.le_of_ble_eq_true rfl) (SymSt.nil _) fun St c cs hK=> ?_
 by_cases c1:97≤x.toNat
 all_goals by_cases c2:x.toNat≤122
 all_goals try omega
 all_goals
   refine .sr ?_
   refine .g ?_
   refine .done (.sr ?_)
   refine .m ?_
   refine .i ?_ (z:=by first|exact geq_t (by omega)|exact geq_f (by omega))
   refine .m ?_
   first|(refine .sk ?_)|(refine .m ?_)
   first|(refine .sk ?_)|(refine .x (.it (zz:=(by first|exact leq_t (by omega)|exact leq_f (by omega)))) ?_)
   refine .x .pk ?_
   refine .g ?_
   refine .done ?_
   refine .rt hK Tryz.func195 Tryz.results195 [_] ?_
   exact fun H' hs=> ⟨hs.base,by simp[packV,c1,c2]⟩
theorem digitR_c(x:UInt8)(t:Bool)(ht:dig x=t):CallT M 196 #[.int .u8 (x.toNat:Nat)] H (fun v H'=> H.le H'∧v=.bool t):=by
 have e:dig x=decide (48≤x.toNat∧x.toNat≤57):=by unfold dig;exact decide_eq_decide.2 (by omega)
 rw[←ht,e]
 refine CallT.enter (vs:= [.int .u8 (x.toNat:Nat)]) Tryz.func196 rfl Tryz.ntmps196 (Nat.le_of_ble_eq_true rfl) (SymSt.nil _) fun St c cs hK=> ?_
 by_cases c1:48≤x.toNat
 all_goals by_cases c2:x.toNat≤57
 all_goals try omega
 all_goals
   refine .sr ?_
   refine .g ?_
   refine .done (.sr ?_)
   refine .m ?_
   refine .i ?_ (z:=by first|exact geq_t (by omega)|exact geq_f (by omega))
   refine .m ?_
   first|(refine .sk ?_)|(refine .m ?_)
   first|(refine .sk ?_)|(refine .x (.it (zz:=(by first|exact leq_t (by omega)|exact leq_f (by omega)))) ?_)
   refine .x .pk ?_
   refine .g ?_
   refine .done ?_
   refine .rt hK Tryz.func196 Tryz.results196 [_] ?_
   exact fun H' hs=> ⟨hs.base,by simp[packV,c1,c2]⟩
theorem Begins_c(s p:List UInt8)(t:Bool)(ht:begins s p=t):CallT M 152 #[strV s,strV p] H (fun v H'=> H.le H'∧v=.bool t):=by
 rw[←ht]
 refine CallT.enter (vs:= [strV s,strV p]) Tryz.func152 rfl Tryz.ntmps152 (Nat.le_of_ble_eq_true rfl) (SymSt.nil _) fun St c cs hK=> ?_
 by_cases c1:p.length≤s.length
 · have e:begins s p=(s.take p.length==p):=by unfold begins;simp[c1]
   rw[e] at hK
   refine .sr ?_
   refine .g ?_
   refine .done (.sr ?_)
   refine .m ?_
   refine .x (OpV.lenS (E:=en) rfl rfl rfl rfl rfl rfl rfl) ?_
   refine .m ?_
   refine .x (OpV.lenS (E:=en) rfl rfl rfl rfl rfl rfl rfl) ?_
   refine .i ?_ (z:=leq_t (by omega))
   refine .m ?_
   refine .m ?_
   refine .m ?_
   refine .x (OpV.lenS (E:=en) rfl rfl rfl rfl rfl rfl rfl) ?_
   refine .x (OpV.sliceS (E:=en) rfl rfl rfl rfl rfl rfl (by omega) (by omega) (by omega)) ?_
   refine .m ?_
   refine .x (OpV.strB rfl rfl rfl (by exact rfl)) ?_
   refine .x .pk ?_
   refine .g ?_
   refine .done ?_
   refine .rt hK Tryz.func152 Tryz.results152 [_] ?_
   exact fun H' hs=> ⟨hs.base,by simp[packV]⟩
 · have e:begins s p=false:=by unfold begins;simp[c1]
   rw[e] at hK
   refine .sr ?_
   refine .g ?_
   refine .done (.sr ?_)
   refine .m ?_
   refine .x (OpV.lenS (E:=en) rfl rfl rfl rfl rfl rfl rfl) ?_
   refine .m ?_
   refine .x (OpV.lenS (E:=en) rfl rfl rfl rfl rfl rfl rfl) ?_
   refine .i ?_ (z:=leq_f (by omega))
   refine .m ?_
   refine .sk ?_
   refine .sk ?_
   refine .sk ?_
   refine .sk ?_
   refine .sk ?_
   refine .sk ?_
   refine .x .pk ?_
   refine .g ?_
   refine .done ?_
   refine .rt hK Tryz.func152 Tryz.results152 [_] ?_
   exact fun H' hs=> ⟨hs.base,rfl⟩
theorem all_not {s:List UInt8}{j:Nat}{x:UInt8}(h:s[j]? =some x)(hx:dig x=false):s.all dig=false:=by
 rw[List.all_eq_false]
 exact⟨x,List.mem_of_getElem? h,by rw[hx];decide⟩
theorem IsNumberR_c(s:List UInt8)(hl:s.length≤1000000)(t:Bool)(ht:isNum s=t):CallT M 135 #[strV s] H (fun v H'=> H.le H'∧v=.bool t):=by
 rw[←ht]
 clear ht
 refine CallT.enter (vs:= [strV s]) Tryz.func135 rfl Tryz.ntmps135 (Nat.le_of_ble_eq_true rfl) (SymSt.nil _) fun St c cs hK=> ?_
 refine .sr ?_
 refine .g ?_
 refine .done (.seq (.sr ?_))
 refine .g ?_
 refine .done (.block ?_)
 refine Tc.db (Tc.loopInv (σ:= { j:Nat//j≤s.length∧∀i x,i<j→s[i]? =some x→dig x=true }) (fun j=> ([(0,strV s),(3,.int .i64 (j.1:Nat))],[])) (fun j=> s.length-j.1) ?_ ⟨0,Nat.zero_le _,fun i x hi=> by omega⟩)
 rintro⟨j,hj,hall⟩ ih
 show Tc M St _ _ _ _ [(0,strV s),(3,.int .i64 (j:Nat))] [] _ _
 by_cases c1:j=s.length
 · have e:s.all dig=true:=List.all_eq_true.2 fun x hx=> by
     obtain⟨i,hi,rfl⟩:=List.mem_iff_getElem.1 hx
     exact hall i _ (by omega) (List.getElem?_eq_getElem hi)
   have e2:isNum s=decide (1≤((s.length:Nat):Int)∧((s.length:Nat):Int)≤3):=by
     unfold isNum
     rw[e,Bool.and_true]
     exact decide_eq_decide.2 (by omega)
   rw[e2] at hK
   subst c1
   refine .seq (.sr ?_)
   refine .m ?_
   refine .m ?_
   refine .x (OpV.lenS (E:=en) rfl rfl rfl rfl rfl rfl rfl) ?_
   refine .i ?_ (z:=lss_f (by omega))
   refine .done (.ff rfl (.exit rfl (.sr ?_)))
   refine .m ?_
   refine .x (OpV.lenS (E:=en) rfl rfl rfl rfl rfl rfl rfl) ?_
   refine .c rfl rfl rfl rfl (fun H hs=> .f ca44 rfl (In_c M H (s.length:Nat) 1 3 _ rfl)) ?_
   refine .g ?_
   refine .done ?_
   refine .rt hK Tryz.func135 Tryz.results135 [_] ?_
   exact fun H' hs=> ⟨hs.base,rfl⟩
 · have c2:j<s.length:=by omega
   obtain⟨x,hx⟩:∃x,s[j]? =some x:=⟨_,List.getElem?_eq_getElem c2⟩
   have f1:s[((j:Nat):Int).toNat]? =some x:=by rw[Int.toNat_natCast];exact hx
   cases hd:dig x with
   | true=>
     have:=of_decide_eq_true hd
     refine .seq (.sr ?_)
     refine .m ?_
     refine .m ?_
     refine .x (OpV.lenS (E:=en) rfl rfl rfl rfl rfl rfl rfl) ?_
     refine .i ?_ (z:=lss_t (by omega))
     refine .done (.tt rfl (.skip (.seq (.block (.sr ?_)))))
     refine .m ?_
     refine .m ?_
     refine .x (OpV.indexS (E:=en) rfl rfl rfl rfl rfl (by omega) (by assumption)) ?_
     refine .i ?_ (z:=lss_f (by omega))
     refine .m ?_
     refine .m ?_
     refine .m ?_
     refine .x (OpV.indexS (E:=en) rfl rfl rfl rfl rfl (by omega) (by assumption)) ?_
     refine .i ?_ (z:=gtr_f (by omega))
     refine .x .pk ?_
     refine .done (.ff rfl (.skip (.inBlock (.r ?_))))
     refine .m ?_
     refine .i ?_ (z:=add_in (by omega) (by omega))
     refine .g ?_
     refine .done ?_
     exact Tc.db (ih ⟨j+1,by omega,fun i y hi hy=> by
       by_cases e:i=j
       · subst e;rw[hx] at hy;cases hy;exact hd
       · exact hall i y (by omega) hy⟩ (by simp only;omega))
   | false=>
     have e:isNum s=false:=by unfold isNum;rw[all_not hx hd];simp
     have hnd:=of_decide_eq_false hd
     rw[e] at hK
     by_cases c3:x.toNat<48
     · refine .seq (.sr ?_)
       refine .m ?_
       refine .m ?_
       refine .x (OpV.lenS (E:=en) rfl rfl rfl rfl rfl rfl rfl) ?_
       refine .i ?_ (z:=lss_t (by omega))
       refine .done (.tt rfl (.skip (.seq (.block (.sr ?_)))))
       refine .m ?_
       refine .m ?_
       refine .x (OpV.indexS (E:=en) rfl rfl rfl rfl rfl (by omega) (by assumption)) ?_
       refine .i ?_ (z:=lss_t (by omega))
       refine .m ?_
       refine .sk ?_
       refine .sk ?_
       refine .sk ?_
       refine .sk ?_
       refine .x .pk ?_
       refine .done (.tt rfl (.sr ?_))
       refine .g ?_
       refine .done ?_
       refine .rt hK Tryz.func135 Tryz.results135 [_] ?_
       exact fun H' hs=> ⟨hs.base,rfl⟩
     · have c4:57<x.toNat:=by omega
       refine .seq (.sr ?_)
       refine .m ?_
       refine .m ?_
       refine .x (OpV.lenS (E:=en) rfl rfl rfl rfl rfl rfl rfl) ?_
       refine .i ?_ (z:=lss_t (by omega))
       refine .done (.tt rfl (.skip (.seq (.block (.sr ?_)))))
       refine .m ?_
       refine .m ?_
       refine .x (OpV.indexS (E:=en) rfl rfl rfl rfl rfl (by omega) (by assumption)) ?_
       refine .i ?_ (z:=lss_f (by omega))
       refine .m ?_
       refine .m ?_
       refine .m ?_
       refine .x (OpV.indexS (E:=en) rfl rfl rfl rfl rfl (by omega) (by assumption)) ?_
       refine .i ?_ (z:=gtr_t (by omega))
       refine .x .pk ?_
       refine .done (.tt rfl (.sr ?_))
       refine .g ?_
       refine .done ?_
       refine .rt hK Tryz.func135 Tryz.results135 [_] ?_
       exact fun H' hs=> ⟨hs.base,rfl⟩
theorem IsNameR_c(s:List UInt8)(hl:s.length≤1000000)(t:Bool)(ht:isNm s=t):CallT M 153 #[strV s] H (fun v H'=> H.le H'∧v=.bool t):=by
 rw[←ht]
 clear ht
 refine CallT.enter (vs:= [strV s]) Tryz.func153 rfl Tryz.ntmps153 (Nat.le_of_ble_eq_true rfl) (SymSt.nil _) fun St c cs hK=> ?_
 refine .sr ?_
 refine .g ?_
 refine .done (.seq (.sr ?_))
 refine .g ?_
 refine .done (.block ?_)
 refine Tc.db (Tc.loopInv (σ:= { j:Nat//j≤s.length∧∀i,i<j→nmAt s i=true }) (fun j=> ([(0,strV s),(3,.int .i64 (j.1:Nat))],[])) (fun j=> s.length-j.1) ?_ ⟨0,Nat.zero_le _,fun i hi=> by omega⟩)
 rintro⟨j,hj,hall⟩ ih
 show Tc M St _ _ _ _ [(0,strV s),(3,.int .i64 (j:Nat))] [] _ _
 by_cases c1:j=s.length
 · have e:allB (nmAt s) s.length=true:=(allB_iff _).2 (by rw[←c1];exact hall)
   have e2:isNm s=decide (1≤((s.length:Nat):Int)∧((s.length:Nat):Int)≤9):=by
     unfold isNm
     rw[e,Bool.and_true]
     exact decide_eq_decide.2 (by omega)
   rw[e2] at hK
   subst c1
   refine .seq (.sr ?_)
   refine .m ?_
   refine .m ?_
   refine .x (OpV.lenS (E:=en) rfl rfl rfl rfl rfl rfl rfl) ?_
   refine .i ?_ (z:=lss_f (by omega))
   refine .done (.ff rfl (.exit rfl (.sr ?_)))
   refine .m ?_
   refine .x (OpV.lenS (E:=en) rfl rfl rfl rfl rfl rfl rfl) ?_
   refine .c rfl rfl rfl rfl (fun H hs=> .f ca44 rfl (In_c M H (s.length:Nat) 1 9 _ rfl)) ?_
   refine .g ?_
   refine .done ?_
   refine .rt hK Tryz.func153 Tryz.results153 [_] ?_
   exact fun H' hs=> ⟨hs.base,rfl⟩
 · have c2:j<s.length:=by omega
   obtain⟨x,hx⟩:∃x,s[j]? =some x:=⟨_,List.getElem?_eq_getElem c2⟩
   have f1:s[((j:Nat):Int).toNat]? =some x:=by rw[Int.toNat_natCast];exact hx
   cases hlw:low x with
   | true=>
     have hn:nmAt s j=true:=by unfold nmAt;rw[hx];simp[hlw]
     refine .seq (.sr ?_)
     refine .m ?_
     refine .m ?_
     refine .x (OpV.lenS (E:=en) rfl rfl rfl rfl rfl rfl rfl) ?_
     refine .i ?_ (z:=lss_t (by omega))
     refine .done (.tt rfl (.skip (.seq (.block (.sr ?_)))))
     refine .m ?_
     refine .m ?_
     refine .x (OpV.indexS (E:=en) rfl rfl rfl rfl rfl (by omega) (by assumption)) ?_
     refine .c rfl rfl rfl rfl (fun H hs=> .f ca195 rfl (smallR_c M H x true hlw)) ?_
     refine .x .nt ?_
     refine .m ?_
     refine .sk ?_
     refine .sk ?_
     refine .sk ?_
     refine To.skippedU rfl (by decide) rfl ?_
     refine To.skippedU rfl (by decide) rfl ?_
     refine To.skippedU rfl (by decide) rfl ?_
     refine To.skippedU rfl (by decide) rfl ?_
     refine To.skippedU rfl (by decide) rfl ?_
     refine .sk ?_
     refine .x .pk ?_
     refine .done (.ff rfl (.skip (.inBlock (.r ?_))))
     refine .m ?_
     refine .i ?_ (z:=add_in (by omega) (by omega))
     refine .g ?_
     refine .done ?_
     exact Tc.db (ih ⟨j+1,by omega,fun i hi=> by by_cases e:i=j;exact e▸hn;exact hall i (by omega)⟩ (by simp only;omega))
   | false=>
     by_cases c3:j=0
     · subst c3
       have e:isNm s=false:=by unfold isNm;rw[allB_not c2 (by unfold nmAt;rw[hx];simp[hlw])];simp
       rw[e] at hK
       refine .seq (.sr ?_)
       refine .m ?_
       refine .m ?_
       refine .x (OpV.lenS (E:=en) rfl rfl rfl rfl rfl rfl rfl) ?_
       refine .i ?_ (z:=lss_t (by omega))
       refine .done (.tt rfl (.skip (.seq (.block (.sr ?_)))))
       refine .m ?_
       refine .m ?_
       refine .x (OpV.indexS (E:=en) rfl rfl rfl rfl rfl (by omega) (by assumption)) ?_
       refine .c rfl rfl rfl rfl (fun H hs=> .f ca195 rfl (smallR_c M H x false hlw)) ?_
       refine .x .nt ?_
       refine .m ?_
       refine .m ?_
       refine .i ?_ (z:=eql_t (by omega))
       refine .m ?_
       refine .sk ?_
       refine .sk ?_
       refine .sk ?_
       refine .sk ?_
       refine .sk ?_
       refine .x .pk ?_
       refine .x .pk ?_
       refine .done (.tt rfl (.sr ?_))
       refine .g ?_
       refine .done ?_
       refine .rt hK Tryz.func153 Tryz.results153 [_] ?_
       exact fun H' hs=> ⟨hs.base,rfl⟩
     · have c4:(j:Int)≠0:=by omega
       cases hd:dig x with
       | true=>
         have hn:nmAt s j=true:=by unfold nmAt;rw[hx];simp[hd];omega
         refine .seq (.sr ?_)
         refine .m ?_
         refine .m ?_
         refine .x (OpV.lenS (E:=en) rfl rfl rfl rfl rfl rfl rfl) ?_
         refine .i ?_ (z:=lss_t (by omega))
         refine .done (.tt rfl (.skip (.seq (.block (.sr ?_)))))
         refine .m ?_
         refine .m ?_
         refine .x (OpV.indexS (E:=en) rfl rfl rfl rfl rfl (by omega) (by assumption)) ?_
         refine .c rfl rfl rfl rfl (fun H hs=> .f ca195 rfl (smallR_c M H x false hlw)) ?_
         refine .x .nt ?_
         refine .m ?_
         refine .m ?_
         refine .i ?_ (z:=eql_f (by omega))
         refine .m ?_
         refine .m ?_
         refine .m ?_
         refine .x (OpV.indexS (E:=en) rfl rfl rfl rfl rfl (by omega) (by assumption)) ?_
         refine .c rfl rfl rfl rfl (fun H hs=> .f ca196 rfl (digitR_c M H x true hd)) ?_
         refine .x .nt ?_
         refine .x .pk ?_
         refine .x .pk ?_
         refine .done (.ff rfl (.skip (.inBlock (.r ?_))))
         refine .m ?_
         refine .i ?_ (z:=add_in (by omega) (by omega))
         refine .g ?_
         refine .done ?_
         exact Tc.db (ih ⟨j+1,by omega,fun i hi=> by by_cases e:i=j;exact e▸hn;exact hall i (by omega)⟩ (by simp only;omega))
       | false=>
         have e:isNm s=false:=by unfold isNm;rw[allB_not c2 (by unfold nmAt;rw[hx];simp[hlw,hd])];simp
         rw[e] at hK
         refine .seq (.sr ?_)
         refine .m ?_
         refine .m ?_
         refine .x (OpV.lenS (E:=en) rfl rfl rfl rfl rfl rfl rfl) ?_
         refine .i ?_ (z:=lss_t (by omega))
         refine .done (.tt rfl (.skip (.seq (.block (.sr ?_)))))
         refine .m ?_
         refine .m ?_
         refine .x (OpV.indexS (E:=en) rfl rfl rfl rfl rfl (by omega) (by assumption)) ?_
         refine .c rfl rfl rfl rfl (fun H hs=> .f ca195 rfl (smallR_c M H x false hlw)) ?_
         refine .x .nt ?_
         refine .m ?_
         refine .m ?_
         refine .i ?_ (z:=eql_f (by omega))
         refine .m ?_
         refine .m ?_
         refine .m ?_
         refine .x (OpV.indexS (E:=en) rfl rfl rfl rfl rfl (by omega) (by assumption)) ?_
         refine .c rfl rfl rfl rfl (fun H hs=> .f ca196 rfl (digitR_c M H x false hd)) ?_
         refine .x .nt ?_
         refine .x .pk ?_
         refine .x .pk ?_
         refine .done (.tt rfl (.sr ?_))
         refine .g ?_
         refine .done ?_
         refine .rt hK Tryz.func153 Tryz.results153 [_] ?_
         exact fun H' hs=> ⟨hs.base,rfl⟩
theorem IndexOf_c(A:Option Addr)(n ac:Nat)(x:Nat→List UInt8)(hA:StrsAt H A n x)(hn:n≤1000000)(s:List UInt8):CallT M 42 #[.slice A n ac,strV s] H (fun v H'=> H.le H'∧v=.int .i64 (firstI (firstTo (fun j=> x j==s) n))):=by
 refine CallT.enter (vs:= [.slice A n ac,strV s]) Tryz.func42 rfl Tryz.ntmps42 (Nat.le_of_ble_eq_true rfl) (SymSt.nil _) fun St c cs hK=> ?_
 refine .sr ?_
 refine .g ?_
 refine .done (.seq (.sr ?_))
 refine .g ?_
 refine .done (.block ?_)
 refine Tc.db (Tc.loopInv (σ:= { j:Nat//j≤n∧firstTo (fun j=> x j==s) j=none }) (fun j=> ([(0,.slice A n ac),(1,strV s),(5,.int .i64 (j.1:Nat))],[])) (fun j=> n-j.1) ?_ ⟨0,Nat.zero_le _,rfl⟩)
 rintro⟨j,hj,hno⟩ ih
 show Tc M St _ _ _ _ [(0,.slice A n ac),(1,strV s),(5,.int .i64 (j:Nat))] [] _ _
 by_cases c1:j=n
 · subst c1
   rw[hno] at hK
   refine .seq (.sr ?_)
   refine .m ?_
   refine .m ?_
   refine .x .ln ?_
   refine .i ?_ (z:=lss_f (by omega))
   refine .done (.ff rfl (.exit rfl (.sr ?_)))
   refine .g ?_
   refine .done ?_
   refine .rt hK Tryz.func42 Tryz.results42 [_] ?_
   exact fun H' hs=> ⟨hs.base,rfl⟩
 · have c2:j<n:=by omega
   obtain h0|⟨ab,ao,f,gs,gt,gz,rfl,hb,hl⟩:=hA
   · omega
   have f1:=hl j c2
   cases hpp:x j==s with
   | true=>
     have f3:RL.strB .eql (x j) s=some (.bool true):=by rw[←hpp];rfl
     have e:firstTo (fun j=> x j==s) n=some j:=firstTo_stays (j:=j+1) (by simp[firstTo,hno,hpp]) _ (by omega)
     rw[e] at hK
     refine .seq (.sr ?_)
     refine .m ?_
     refine .m ?_
     refine .x .ln ?_
     refine .i ?_ (z:=lss_t (by omega))
     refine .done (.tt rfl (.skip (.seq (.block (.sr ?_)))))
     refine .m ?_
     refine .m ?_
     refine .x .ia ?_
     refine .x .l0 ?_
     refine .m ?_
     refine .x (OpV.strB rfl rfl rfl (by assumption)) ?_
     refine .done (.tt rfl (.sr ?_))
     refine .m ?_
     refine .g ?_
     refine .done ?_
     refine .rt hK Tryz.func42 Tryz.results42 [_] ?_
     exact fun H' hs=> ⟨hs.base,rfl⟩
   | false=>
     have f3:RL.strB .eql (x j) s=some (.bool false):=by rw[←hpp];rfl
     refine .seq (.sr ?_)
     refine .m ?_
     refine .m ?_
     refine .x .ln ?_
     refine .i ?_ (z:=lss_t (by omega))
     refine .done (.tt rfl (.skip (.seq (.block (.sr ?_)))))
     refine .m ?_
     refine .m ?_
     refine .x .ia ?_
     refine .x .l0 ?_
     refine .m ?_
     refine .x (OpV.strB rfl rfl rfl (by assumption)) ?_
     refine .done (.ff rfl (.skip (.inBlock (.r ?_))))
     refine .m ?_
     refine .i ?_ (z:=add_in (by omega) (by omega))
     refine .g ?_
     refine .done ?_
     exact Tc.db (ih ⟨j+1,by omega,by simp[firstTo,hno,hpp]⟩ (by simp only;omega))
theorem clashesR_c(k:Bk)(A:Option Addr)(lc:Nat)(hA:RowsAt H k A lc)(hn:k.nl≤1000)(s:List UInt8)(t:Bool)(ht:k.clash s=t):
   CallT M 136 #[.slice A k.nl lc,strV s] H (fun v H'=> H.le H'∧v=.bool t):=by
 rw[←ht]
 clear ht
 refine CallT.enter (vs:= [.slice A k.nl lc,strV s]) Tryz.func136 rfl Tryz.ntmps136 (Nat.le_of_ble_eq_true rfl) (SymSt.nil _) fun St c cs hK=> ?_
 refine .sr ?_
 refine .g ?_
 refine .done (.seq (.sr ?_))
 refine .g ?_
 refine .done (.block ?_)
 refine Tc.db (Tc.loopInv (σ:= { j:Nat//j≤k.nl∧firstTo (fun i=> clash1 (k.num i) s) j=none }) (fun j=> ([(0,.slice A k.nl lc),(1,strV s),(5,.int .i64 (j.1:Nat))],[])) (fun j=> k.nl-j.1) ?_ ⟨0,Nat.zero_le _,rfl⟩)
 rintro⟨j,hj,hno⟩ ih
 show Tc M St _ _ _ _ [(0,.slice A k.nl lc),(1,strV s),(5,.int .i64 (j:Nat))] [] _ _
 by_cases c1:j=k.nl
 · have e:k.clash s=false:=by unfold Bk.clash;rw[←c1,hno];rfl
   subst c1
   rw[e] at hK
   refine .seq (.sr ?_)
   refine .m ?_
   refine .m ?_
   refine .x .ln ?_
   refine .i ?_ (z:=lss_f (by omega))
   refine .done (.ff rfl (.exit rfl (.sr ?_)))
   refine .g ?_
   refine .done ?_
   refine .rt hK Tryz.func136 Tryz.results136 [_] ?_
   exact fun H' hs=> ⟨hs.base,rfl⟩
 · have c2:j<k.nl:=by omega
   obtain⟨_,h0|⟨ab,ao,f,gs,gt,gz,rfl,hb,hl⟩⟩:=hA
   · omega
   obtain⟨F,fc,f1,_,_⟩:=hl j c2
   have f2:ldL false 1 gs (ao+((j:Nat):Int).toNat*3+1)=some (strV (k.num j)):=ldL_cell f1 (by decide)
   cases hpp:clash1 (k.num j) s with
   | true=>
     have e:k.clash s=true:=by
       unfold Bk.clash
       rw[firstTo_stays (j:=j+1) (x:=j) (by simp[firstTo,hno,hpp]) _ (by omega)]
       rfl
     rw[e] at hK
     cases hb1:begins s (k.num j) with
     | true=>
       refine .seq (.sr ?_)
       refine .m ?_
       refine .m ?_
       refine .x .ln ?_
       refine .i ?_ (z:=lss_t (by omega))
       refine .done (.tt rfl (.skip (.seq (.block (.sr ?_)))))
       refine .m ?_
       refine .m ?_
       refine .m ?_
       refine .x .ia ?_
       refine .x .fa ?_
       refine .x .l0 ?_
       refine .c rfl rfl rfl rfl (fun H hs=> .f ca152 rfl (Begins_c M H s (k.num j) true hb1)) ?_
       refine .m ?_
       refine .sk ?_
       refine .sk ?_
       refine .sk ?_
       refine .sk ?_
       refine .sk ?_
       refine .sk ?_
       refine .sk ?_
       refine .x .pk ?_
       refine .done (.tt rfl (.sr ?_))
       refine .g ?_
       refine .done ?_
       refine .rt hK Tryz.func136 Tryz.results136 [_] ?_
       exact fun H' hs=> ⟨hs.base,rfl⟩
     | false=>
       have hb2:begins (k.num j) s=true:=by unfold clash1 at hpp;rw[hb1,Bool.or_false] at hpp;exact hpp
       refine .seq (.sr ?_)
       refine .m ?_
       refine .m ?_
       refine .x .ln ?_
       refine .i ?_ (z:=lss_t (by omega))
       refine .done (.tt rfl (.skip (.seq (.block (.sr ?_)))))
       refine .m ?_
       refine .m ?_
       refine .m ?_
       refine .x .ia ?_
       refine .x .fa ?_
       refine .x .l0 ?_
       refine .c rfl rfl rfl rfl (fun H hs=> .f ca152 rfl (Begins_c M H s (k.num j) false hb1)) ?_
       refine .m ?_
       refine .m ?_
       refine .m ?_
       refine .x .ia ?_
       refine .x .fa ?_
       refine .x .l0 ?_
       refine .m ?_
       refine .c rfl rfl rfl rfl (fun H hs=> .f ca152 rfl (Begins_c M H (k.num j) s true hb2)) ?_
       refine .x .pk ?_
       refine .done (.tt rfl (.sr ?_))
       refine .g ?_
       refine .done ?_
       refine .rt hK Tryz.func136 Tryz.results136 [_] ?_
       exact fun H' hs=> ⟨hs.base,rfl⟩
   | false=>
     have hb12:begins s (k.num j)=false∧begins (k.num j) s=false:=by unfold clash1 at hpp;rw[Bool.or_eq_false_iff] at hpp;exact⟨hpp.2,hpp.1⟩
     refine .seq (.sr ?_)
     refine .m ?_
     refine .m ?_
     refine .x .ln ?_
     refine .i ?_ (z:=lss_t (by omega))
     refine .done (.tt rfl (.skip (.seq (.block (.sr ?_)))))
     refine .m ?_
     refine .m ?_
     refine .m ?_
     refine .x .ia ?_
     refine .x .fa ?_
     refine .x .l0 ?_
     refine .c rfl rfl rfl rfl (fun H hs=> .f ca152 rfl (Begins_c M H s (k.num j) false hb12.1)) ?_
     refine .m ?_
     refine .m ?_
     refine .m ?_
     refine .x .ia ?_
     refine .x .fa ?_
     refine .x .l0 ?_
     refine .m ?_
     refine .c rfl rfl rfl rfl (fun H hs=> .f ca152 rfl (Begins_c M H (k.num j) s false hb12.2)) ?_
     refine .x .pk ?_
     refine .done (.ff rfl (.skip (.inBlock (.r ?_))))
     refine .m ?_
     refine .i ?_ (z:=add_in (by omega) (by omega))
     refine .g ?_
     refine .done ?_
     exact Tc.db (ih ⟨j+1,by omega,by simp[firstTo,hno,hpp]⟩ (by simp only;omega))
theorem checkTrain_c(a b p q:Int)(z:Int)(hz:(if trainOk a b p q then 0 else 1:Int)=z):CallT M 89 #[trainV a b p q] H (fun v H'=> H.le H'∧v=.int .i64 z):=by
 rw[←hz]
 clear hz
 by_cases c1:1≤a∧a≤b∧b≤12
 · by_cases c2:b-a<4
   · by_cases c3:0≤p∧p≤q∧q≤99
     · have e:trainOk a b p q=true:=by unfold trainOk;simp[c1,c2,c3]
       rw[e]
       refine CallT.enter (vs:= [trainV a b p q]) Tryz.func89 rfl Tryz.ntmps89 (Nat.le_of_ble_eq_true rfl) (SymSt.nil _) fun St c cs hK=> ?_
       refine .sr ?_
       refine .e (.bx (zz:=fun b1=> ?_))
       refine .g ?_
       refine .done (.seq (.sr ?_))
       refine .x .fa ?_
       refine .x (.ld 0) ?_
       refine .c rfl rfl rfl rfl (fun H hs=> .f ca155 rfl (Inside_c M H a b 1 12 true (decide_eq_true c1))) ?_
       refine .x .nt ?_
       refine .m ?_
       refine .x .fa ?_
       refine .x .fa ?_
       refine .x (.ld 0) ?_
       refine .x .fa ?_
       refine .x .fa ?_
       refine .x (.ld 0) ?_
       refine .i ?_ (z:=sub_in (by omega) (by omega))
       refine .i ?_ (z:=geq_f (by omega))
       refine .x .pk ?_
       refine .m ?_
       refine .x .fa ?_
       refine .x (.ld 0) ?_
       refine .c rfl rfl rfl rfl (fun H hs=> .f ca155 rfl (Inside_c M H p q 0 99 true (decide_eq_true c3))) ?_
       refine .x .nt ?_
       refine .x .pk ?_
       refine .done (.ff rfl (.skip (.sr ?_)))
       refine .g ?_
       refine .done ?_
       refine .rt hK Tryz.func89 Tryz.results89 [_] ?_
       exact fun H' hs=> ⟨hs.base,rfl⟩
     · have e:trainOk a b p q=false:=by unfold trainOk;simp[c3]
       rw[e]
       refine CallT.enter (vs:= [trainV a b p q]) Tryz.func89 rfl Tryz.ntmps89 (Nat.le_of_ble_eq_true rfl) (SymSt.nil _) fun St c cs hK=> ?_
       refine .sr ?_
       refine .e (.bx (zz:=fun b1=> ?_))
       refine .g ?_
       refine .done (.seq (.sr ?_))
       refine .x .fa ?_
       refine .x (.ld 0) ?_
       refine .c rfl rfl rfl rfl (fun H hs=> .f ca155 rfl (Inside_c M H a b 1 12 true (decide_eq_true c1))) ?_
       refine .x .nt ?_
       refine .m ?_
       refine .x .fa ?_
       refine .x .fa ?_
       refine .x (.ld 0) ?_
       refine .x .fa ?_
       refine .x .fa ?_
       refine .x (.ld 0) ?_
       refine .i ?_ (z:=sub_in (by omega) (by omega))
       refine .i ?_ (z:=geq_f (by omega))
       refine .x .pk ?_
       refine .m ?_
       refine .x .fa ?_
       refine .x (.ld 0) ?_
       refine .c rfl rfl rfl rfl (fun H hs=> .f ca155 rfl (Inside_c M H p q 0 99 false (decide_eq_false c3))) ?_
       refine .x .nt ?_
       refine .x .pk ?_
       refine .done (.tt rfl (.sr ?_))
       refine .g ?_
       refine .done ?_
       refine .rt hK Tryz.func89 Tryz.results89 [_] ?_
       exact fun H' hs=> ⟨hs.base,rfl⟩
   · have e:trainOk a b p q=false:=by unfold trainOk;simp[c2]
     rw[e]
     refine CallT.enter (vs:= [trainV a b p q]) Tryz.func89 rfl Tryz.ntmps89 (Nat.le_of_ble_eq_true rfl) (SymSt.nil _) fun St c cs hK=> ?_
     refine .sr ?_
     refine .e (.bx (zz:=fun b1=> ?_))
     refine .g ?_
     refine .done (.seq (.sr ?_))
     refine .x .fa ?_
     refine .x (.ld 0) ?_
     refine .c rfl rfl rfl rfl (fun H hs=> .f ca155 rfl (Inside_c M H a b 1 12 true (decide_eq_true c1))) ?_
     refine .x .nt ?_
     refine .m ?_
     refine .x .fa ?_
     refine .x .fa ?_
     refine .x (.ld 0) ?_
     refine .x .fa ?_
     refine .x .fa ?_
     refine .x (.ld 0) ?_
     refine .i ?_ (z:=sub_in (by omega) (by omega))
     refine .i ?_ (z:=geq_t (by omega))
     refine .x .pk ?_
     refine .m ?_
     refine .sk ?_
     refine .sk ?_
     refine .sk ?_
     refine .sk ?_
     refine .x .pk ?_
     refine .done (.tt rfl (.sr ?_))
     refine .g ?_
     refine .done ?_
     refine .rt hK Tryz.func89 Tryz.results89 [_] ?_
     exact fun H' hs=> ⟨hs.base,rfl⟩
 · have e:trainOk a b p q=false:=by unfold trainOk;simp[c1]
   rw[e]
   refine CallT.enter (vs:= [trainV a b p q]) Tryz.func89 rfl Tryz.ntmps89 (Nat.le_of_ble_eq_true rfl) (SymSt.nil _) fun St c cs hK=> ?_
   refine .sr ?_
   refine .e (.bx (zz:=fun b1=> ?_))
   refine .g ?_
   refine .done (.seq (.sr ?_))
   refine .x .fa ?_
   refine .x (.ld 0) ?_
   refine .c rfl rfl rfl rfl (fun H hs=> .f ca155 rfl (Inside_c M H a b 1 12 false (decide_eq_false c1))) ?_
   refine .x .nt ?_
   refine .m ?_
   refine .sk ?_
   refine .sk ?_
   refine .sk ?_
   refine .sk ?_
   refine .sk ?_
   refine .sk ?_
   refine .sk ?_
   refine .sk ?_
   refine .x .pk ?_
   refine .m ?_
   refine .sk ?_
   refine .sk ?_
   refine .sk ?_
   refine .sk ?_
   refine .x .pk ?_
   refine .done (.tt rfl (.sr ?_))
   refine .g ?_
   refine .done ?_
   refine .rt hK Tryz.func89 Tryz.results89 [_] ?_
   exact fun H' hs=> ⟨hs.base,rfl⟩
end
end Go.Proofs.YtdnfdeplcjaonaaGreatDoor
end
