/-
  Sent of two, four or six times; Tune of too few or too many; Learn.
-/
import Derived.Test.YtpdaenfglbgfkaaGreatDoorX09
namespace Go.Proofs.YtpdaenfglbgfkaaGreatDoor
open Go.RL
set_option maxRecDepth 10000
set_option maxHeartbeats 4000000
section
variable(M:Md Tryz.prog)(H:View)
theorem Index_4(b cap:Nat)(hb:H b=some (true,.cells ⟨[.int .i64 2,.int .i64 4,.int .i64 6]⟩ 3 (0,0))):CallT M 154 #[.slice (some ⟨b,0,none⟩) 3 cap,.int .i64 4] H (fun v H'=> H.le H'∧v=.int .i64 1):=by
 refine CallT.enter (vs:= [.slice (some ⟨b,0,none⟩) 3 cap,.int .i64 4]) Tryz.func154 rfl Tryz.ntmps154 (Nat.le_of_ble_eq_true rfl) (SymSt.nil _) fun St c cs hK=> ?_
 refine .sr ?_
 refine .g ?_
 refine .done (.seq (.sr ?_))
 refine .m ?_
 refine .x .ln ?_
 refine .m ?_
 refine .done (.block (.loop (.sr ?_)))
 refine .i ?_ (z:=lss_t (by omega))
 refine .done (.seq (.tt rfl (.skip (.seq (.block (.sr ?_))))))
 refine .m ?_
 refine .g ?_
 refine .done (.sr ?_)
 refine .m ?_
 refine .m ?_
 refine .m ?_
 refine .x .ia ?_
 refine .x .l0 ?_
 refine .i ?_ (z:=eql_f (by omega))
 refine .done (.ff rfl (.skip (.inBlock (.r ?_))))
 refine .i ?_ (z:=add_in (by omega) (by omega))
 refine .m ?_
 refine .done ?_
 refine Tc.inLoop ?_
 refine .sr ?_
 refine .i ?_ (z:=lss_t (by omega))
 refine .done (.seq (.tt rfl (.skip (.seq (.block (.sr ?_))))))
 refine .m ?_
 refine .g ?_
 refine .done (.sr ?_)
 refine .m ?_
 refine .m ?_
 refine .m ?_
 refine .x .ia ?_
 refine .x .l0 ?_
 refine .i ?_ (z:=eql_t (by omega))
 refine .done (.tt rfl (.sr ?_))
 refine .m ?_
 refine .g ?_
 refine .done ?_
 refine .rt hK Tryz.func154 Tryz.results154 [_] ?_
 exact fun H' hs=> ⟨hs.base,rfl⟩
theorem Index_6(b cap:Nat)(hb:H b=some (true,.cells ⟨[.int .i64 2,.int .i64 4,.int .i64 6]⟩ 3 (0,0))):CallT M 154 #[.slice (some ⟨b,0,none⟩) 3 cap,.int .i64 6] H (fun v H'=> H.le H'∧v=.int .i64 2):=by
 refine CallT.enter (vs:= [.slice (some ⟨b,0,none⟩) 3 cap,.int .i64 6]) Tryz.func154 rfl Tryz.ntmps154 (Nat.le_of_ble_eq_true rfl) (SymSt.nil _) fun St c cs hK=> ?_
 refine .sr ?_
 refine .g ?_
 refine .done (.seq (.sr ?_))
 refine .m ?_
 refine .x .ln ?_
 refine .m ?_
 refine .done (.block (.loop (.sr ?_)))
 refine .i ?_ (z:=lss_t (by omega))
 refine .done (.seq (.tt rfl (.skip (.seq (.block (.sr ?_))))))
 refine .m ?_
 refine .g ?_
 refine .done (.sr ?_)
 refine .m ?_
 refine .m ?_
 refine .m ?_
 refine .x .ia ?_
 refine .x .l0 ?_
 refine .i ?_ (z:=eql_f (by omega))
 refine .done (.ff rfl (.skip (.inBlock (.r ?_))))
 refine .i ?_ (z:=add_in (by omega) (by omega))
 refine .m ?_
 refine .done ?_
 refine Tc.inLoop ?_
 refine .sr ?_
 refine .i ?_ (z:=lss_t (by omega))
 refine .done (.seq (.tt rfl (.skip (.seq (.block (.sr ?_))))))
 refine .m ?_
 refine .g ?_
 refine .done (.sr ?_)
 refine .m ?_
 refine .m ?_
 refine .m ?_
 refine .x .ia ?_
 refine .x .l0 ?_
 refine .i ?_ (z:=eql_f (by omega))
 refine .done (.ff rfl (.skip (.inBlock (.r ?_))))
 refine .i ?_ (z:=add_in (by omega) (by omega))
 refine .m ?_
 refine .done ?_
 refine Tc.inLoop ?_
 refine .sr ?_
 refine .i ?_ (z:=lss_t (by omega))
 refine .done (.seq (.tt rfl (.skip (.seq (.block (.sr ?_))))))
 refine .m ?_
 refine .g ?_
 refine .done (.sr ?_)
 refine .m ?_
 refine .m ?_
 refine .m ?_
 refine .x .ia ?_
 refine .x .l0 ?_
 refine .i ?_ (z:=eql_t (by omega))
 refine .done (.tt rfl (.sr ?_))
 refine .m ?_
 refine .g ?_
 refine .done ?_
 refine .rt hK Tryz.func154 Tryz.results154 [_] ?_
 exact fun H' hs=> ⟨hs.base,rfl⟩
theorem Contains_of(x i:Int)(hi:0≤i)(b cap:Nat)(h:∀H',H.le H'→CallT M 154 #[.slice (some ⟨b,0,none⟩) 3 cap,.int .i64 x] H' (fun v H''=> H'.le H''∧v=.int .i64 i)):CallT M 110 #[.slice (some ⟨b,0,none⟩) 3 cap,.int .i64 x] H (fun v H'=> H.le H'∧v=.bool true):=by
 refine CallT.enter (vs:= [.slice (some ⟨b,0,none⟩) 3 cap,.int .i64 x]) Tryz.func110 rfl Tryz.ntmps110 (Nat.le_of_ble_eq_true rfl) (SymSt.nil _) fun St c cs hK=> ?_
 refine .sr ?_
 refine .g ?_
 refine .done (.sr ?_)
 refine .m ?_
 refine .m ?_
 refine .c rfl rfl rfl rfl (fun H hs=> .f ca154 rfl (h H hs.base)) ?_
 refine .i ?_ (z:=geq_t (by omega))
 refine .g ?_
 refine .done ?_
 refine .rt hK Tryz.func110 Tryz.results110 [_] ?_
 exact fun H' hs=> ⟨hs.base,rfl⟩
theorem Contains_any(m:Nat)(h:m=2∨m=4∨m=6)(b cap:Nat)(hb:H b=some (true,.cells ⟨[.int .i64 2,.int .i64 4,.int .i64 6]⟩ 3 (0,0))):CallT M 110 #[.slice (some ⟨b,0,none⟩) 3 cap,.int .i64 (m:Nat)] H (fun v H'=> H.le H'∧v=.bool true):=by
 rcases h with rfl|rfl|rfl
 · exact Contains_2 M H b cap hb
 · exact Contains_of M H 4 1 (by decide) b cap fun H' h=> Index_4 M H' b cap (h _ _ hb)
 · exact Contains_of M H 6 2 (by decide) b cap fun H' h=> Index_6 M H' b cap (h _ _ hb)
theorem Sent_c(k:Lk)(hG:Glob H)(hk:k.ok=true)(l:List Int)(hl:Told l)(h2:l.length=2∨l.length=4∨l.length=6)(A:Option Addr)(n cap:Nat)(hn:n=l.length)(hT:TimesAt H A l):CallT M 46 #[k.val,.slice A n cap] H (ToldQ (keepTo (k.sentOf l) 32) H):=by
 subst hn
 refine CallT.enter (vs:= [k.val,.slice A l.length cap]) Tryz.func46 rfl Tryz.ntmps46 (Nat.le_of_ble_eq_true rfl) (SymSt.nil _) fun St c cs hK=> ?_
 have hp6:=pad6_len hl.len
 have lA:Nat.beq (intsL (pad6 l)).length 6=true:=by rw[intsL_len,hp6];rfl
 have lB:(intsL (pad6 l)).all single=true:=by
   rw[List.all_eq_true]
   intro y hy
   obtain⟨z,_,rfl⟩:=List.mem_map.1 hy
   rfl
 have lC:stL [Value.int .i64 0,.int .i64 0,.int .i64 0,.int .i64 0,.int .i64 0,.int .i64 0] 0 (intsL (pad6 l))=intsL (pad6 l):=by
   unfold stL
   rw[List.take_zero,List.nil_append,List.drop_eq_nil_of_le (by rw[intsL_len,hp6];simp),List.append_nil]
 refine .sr ?_
 refine .e (.bx (zz:=fun b2=> ?_))
 refine .e (.bx (zz:=fun b3=> ?_))
 refine .g ?_
 refine .g ?_
 refine .done (.seq (.sr ?_))
 refine .x (.ld 1) ?_
 refine .c rfl rfl rfl rfl (fun H hs=> .f ca86 rfl (checkLink_good M H k (glob_le hG hs.base) hk)) ?_
 refine .g ?_
 refine .done (.sr ?_)
 refine .m ?_
 refine .i ?_ (z:=neq_f (by omega))
 refine .done (.ff rfl (.skip (.seq (.sr ?_))))
 refine .e (.bs (zz:=fun b4=> ?_))
 refine .x (.ld 1) ?_
 refine .x .ln ?_
 refine .c rfl rfl rfl rfl (fun H hs=> .f ca110 rfl (Contains_any M H l.length h2 b4 3 (hs.get (i:=0) rfl))) ?_
 refine .x .nt ?_
 refine .done (.ff rfl (.skip (.sr ?_)))
 refine .x (.ld 1) ?_
 refine .c rfl rfl rfl rfl (fun H hs=> .f ca111 rfl (told_c M H l hl A cap (hT.le hs.base))) ?_
 refine .m ?_
 refine .x .et ?_
 refine .x .et ?_
 refine .e (.al (zz:=fun b7=> ?_))
 refine .e (Or.storeT (E:=en) 0 rfl rfl rfl rfl rfl lA rfl (by exact rfl) lB rfl lC ?_)
 refine .g ?_
 refine .done (.seq (.sr ?_))
 refine .m ?_
 refine .i ?_ (z:=neq_f (by omega))
 refine .done (.ff rfl (.skip (.sr ?_)))
 refine .x .mf ?_
 refine .e (Or.callNew Gl.val Gl.bl (fun g:Gl 3 1=> g.l=keepTo (k.sentOf l) 32) rfl rfl rfl rfl rfl (by decide) gl_nodup (fun H hs=> .f ca97 rfl (keep_n M H 32 _ (k.sentOf l) (by decide) (sent_asks M H k (Lk.fine hk) l hl (by omega) A cap b3 b2 b7 (hs.get (i:=2) rfl) (hs.get (i:=3) rfl) (hs.get (i:=0) rfl)))) (fun g hg=> ?_))
 refine .g ?_
 refine .g ?_
 refine .done ?_
 refine .rt hK Tryz.func46 Tryz.results46 [_,_] ?_
 exact fun H' hs=> ⟨hs.base,g,rfl,hg,fun y hy=> ⟨hs.at_ y (by simp[hy]),hs.out y (by simp[hy])⟩⟩
end
end Go.Proofs.YtpdaenfglbgfkaaGreatDoor
