/-
 Texts of the proofs over baudot/dial.
-/
import Derived.Test.YtcagolloalgfiaaGreatDoorW07
namespace Go.Proofs.YtcagolloalgfiaaGreatDoor
open Go.RL Go.Proofs.Tryz
set_option maxRecDepth 10000
set_option maxHeartbeats 16000000
def lowt(a b:Nat):Nat×Nat:=(a/Nat.gcd a b,b/Nat.gcd a b)
theorem lowt_pos {a b:Nat}(hb:0<b):0<(lowt a b).2:=Nat.div_pos (Nat.le_of_dvd hb (Nat.gcd_dvd_right a b)) (Nat.gcd_pos_of_pos_right a hb)
theorem lowt_le(a b:Nat):(lowt a b).1<=a/\(lowt a b).2<=b:=⟨Nat.div_le_self ..,Nat.div_le_self ..⟩
theorem lowt_eq {a b:Nat}(hb:0<b):∃g,0<g/\a=(lowt a b).1*g/\b=(lowt a b).2*g:=
 ⟨Nat.gcd a b,Nat.gcd_pos_of_pos_right a hb,(Nat.div_mul_cancel (Nat.gcd_dvd_left a b)).symm,(Nat.div_mul_cancel (Nat.gcd_dvd_right a b)).symm⟩
def abv(a b c d:Nat):Bool:=decide (c*b<a*d)
theorem abv_quo {a b c d:Nat}(hb:0<b)(hd:0<d)(h:a/b≠c/d):abv a b c d=decide (c/d<a/b):=by
 unfold abv;rw[decide_eq_decide];have h1:=Nat.div_add_mod a b;have h2:=Nat.mod_lt a hb;have h3:=Nat.div_add_mod c d;have h4:=Nat.mod_lt c hd;constructor
 ·intro h5;rcases Nat.lt_or_gt_of_ne h with h6|h6
  ·exfalso
   have h7:(a/b+1)*(b*d)<=(c/d)*(b*d):=Nat.mul_le_mul_right _ h6;have h8:a*d<(a/b+1)*(b*d):=by
    have:a<(a/b+1)*b:=by rw[Nat.add_mul,Nat.mul_comm (a/b)];omega
    calc a*d<(a/b+1)*b*d:=Nat.mul_lt_mul_of_pos_right this hd
     _=(a/b+1)*(b*d):=Nat.mul_assoc ..
   have h9:(c/d)*(b*d)<=c*b:=by
    have:(c/d)*d<=c:=by rw[Nat.mul_comm];omega
    calc (c/d)*(b*d)=(c/d)*d*b:=by rw[Nat.mul_comm b d,Nat.mul_assoc]
     _<=c*b:=Nat.mul_le_mul_right _ this
   omega
  ·exact h6
 ·intro h6;have h7:(c/d+1)*(b*d)<=(a/b)*(b*d):=Nat.mul_le_mul_right _ h6;have h8:c*b<(c/d+1)*(b*d):=by
   have:c<(c/d+1)*d:=by rw[Nat.add_mul,Nat.mul_comm (c/d)];omega
   calc c*b<(c/d+1)*d*b:=Nat.mul_lt_mul_of_pos_right this hb
    _=(c/d+1)*(b*d):=by rw[Nat.mul_comm b d,Nat.mul_assoc]
  have h9:(a/b)*(b*d)<=a*d:=by
   have:(a/b)*b<=a:=by rw[Nat.mul_comm];omega
   calc (a/b)*(b*d)=(a/b)*b*d:=(Nat.mul_assoc ..).symm
    _<=a*d:=Nat.mul_le_mul_right _ this
  omega
theorem abv_rem {a b c d:Nat}(h:a/b=c/d):abv a b c d=abv (a%b) b (c%d) d:=by
 unfold abv;rw[decide_eq_decide];have h1:=Nat.div_add_mod a b;have h3:=Nat.div_add_mod c d;have e1:a*d=(a/b)*(b*d)+(a%b)*d:=by
  rw[<-Nat.mul_assoc,<-Nat.add_mul,Nat.mul_comm (a/b) b,h1]
 have e2:c*b=(a/b)*(b*d)+(c%d)*b:=by
  rw[h,Nat.mul_comm b d,<-Nat.mul_assoc,<-Nat.add_mul,Nat.mul_comm (c/d) d,h3]
 omega
theorem abv_turn {a b c d:Nat}:abv d c b a=abv a b c d:=by
 unfold abv;rw[Nat.mul_comm b c,Nat.mul_comm d a]
theorem abv_zero_left {b c d:Nat}:abv 0 b c d=false:=by unfold abv;simp
theorem abv_zero_right {a b d:Nat}(hd:0<d):abv a b 0 d=decide (0<a):=by
 unfold abv;rw[decide_eq_decide];constructor
 ·intro h;apply Nat.pos_of_ne_zero
  rintro rfl;omega
 ·intro h;have:=Nat.mul_pos h hd;omega
def frV(a b:Nat):Value:=.agg ⟨[.int .i64 (a:Nat),.int .i64 (b:Nat)]⟩
section
variable(M:Md prog)(H:View)
theorem betweenL_c(n a b:Int):CallT M 84 #[.int .i64 n,.int .i64 a,.int .i64 b] H (fun v H'=> H.le H'/\v=.bool (decide (a<=n/\n<=b))):=by
 refine .en func84 ntmps84 fun St c cs hK=> ?_;by_cases h1:a<=n
 ·by_cases h2:n<=b
  ·rw[decide_eq_true (show a<=n/\n<=b from⟨h1,h2⟩)] at hK;refine U16 ?_;refine .rt hK func84 results84 [_] ?_;exact okB
  ·rw[decide_eq_false (show ¬(a<=n/\n<=b) by omega)] at hK;refine U16 ?_;refine .rt hK func84 results84 [_] ?_;exact okB
 ·rw[decide_eq_false (show ¬(a<=n/\n<=b) by omega)] at hK;refine U16 ?_;refine .rt hK func84 results84 [_] ?_;exact okB
theorem lowest_c(a b:Nat)(hb:0<b)(ha:a<4000000000000000000)(hb2:b<4000000000000000000):CallT M 135 #[.int .i64 (a:Nat),.int .i64 (b:Nat)] H (fun v H'=> H.le H'/\v=frV (lowt a b).1 (lowt a b).2):=by
 refine .en func135 ntmps135 fun St c cs hK=> ?_;refine U2 ?_;refine .al fun b4=> ?_;refine U10 ?_;refine Tc.db (Tc.loopInv (σ:= { s:Nat×Nat//Nat.gcd s.1 s.2=Nat.gcd a b/\(0<s.1\/0<s.2)/\s.1<4000000000000000000/\s.2<4000000000000000000 })
  (fun s=> ([(0,.int .i64 (a:Nat)),(1,.int .i64 (b:Nat)),(4,.pointer (some ⟨b4,0,none⟩)),(5,.int .i64 (s.1.1:Nat)),(6,.int .i64 (s.1.2:Nat))],[(b4,true,.cells ⟨[.int .i64 0,.int .i64 0]⟩ 169 (0,0))])) (fun s=> s.1.2) ?_ ⟨(a,b),rfl,.inr hb,ha,hb2⟩)
 rintro⟨⟨x,y⟩,g1,g2,g3,g4⟩ ih;simp only at g1 g2 g3 g4;show Tc M St _ _ H _ [(0,.int .i64 (a:Nat)),(1,.int .i64 (b:Nat)),(4,.pointer (some ⟨b4,0,none⟩)),(5,.int .i64 (x:Nat)),(6,.int .i64 (y:Nat))] [(b4,true,.cells ⟨[.int .i64 0,.int .i64 0]⟩ 169 (0,0))] _ _;by_cases hy:y=0
 ·subst hy;have hx:x=Nat.gcd a b:=by rw[<-g1,Nat.gcd_zero_right]
  have hx0:0<x:=by omega
  have e1:intBin .quo .i64 ((a:Nat):Int) ((x:Nat):Int)=some (.int .i64 (((lowt a b).1:Nat):Int)):=by
   rw[quo_in oM oM oM,hx];rfl
  have e2:intBin .quo .i64 ((b:Nat):Int) ((x:Nat):Int)=some (.int .i64 (((lowt a b).2:Nat):Int)):=by
   rw[quo_in oM oM oM,hx];rfl
  refine U9 ?_;refine Tc.dr [7] [0] mixed rfl ?_;refine V7 0 ?_;refine .e 7 0 ?_;refine .dn ?_;refine .rt hK func135 results135 [_] ?_;exact okB
 ·have e1:intBin .rem .i64 ((x:Nat):Int) ((y:Nat):Int)=some (.int .i64 ((x%y:Nat):Int)):=by
   rw[rem_in oM oM];rfl
  have h3:=Nat.mod_lt x (Nat.pos_of_ne_zero hy);refine U9 ?_;refine Tc.dr [] [] mixed rfl ?_;refine V6 0 ?_;refine .dn ?_;refine U ?_;exact Tc.db (ih ⟨(y,x%y),by simp only;rw[Nat.gcd_comm,<-g1,Nat.gcd_comm x y,<-Nat.gcd_rec y x,Nat.gcd_comm],.inl (by simp only;omega),g4,by simp only;omega⟩ (by simp only;exact h3))
theorem above_c(a b x d:Nat)(hb:0<b)(hd:0<d)(ha:a<4000000000000000000)(hb2:b<4000000000000000000)(hc2:x<4000000000000000000)(hd2:d<4000000000000000000):
  CallT M 86 #[frV a b,frV x d] H (fun v H'=> H.le H'/\v=.bool (abv a b x d)):=by
 refine .en func86 ntmps86 fun St c cs hK=> ?_;refine U2 ?_;refine .bo fun b2=> ?_;refine .bo fun b3=> ?_;refine U4 ?_;refine Tc.db (Tc.loopInv (σ:= { s:(Nat×Nat)×Nat×Nat//abv s.1.1 s.1.2 s.2.1 s.2.2=abv a b x d/\0<s.1.2/\0<s.2.2/\s.1.1<4000000000000000000/\s.1.2<4000000000000000000/\s.2.1<4000000000000000000/\s.2.2<4000000000000000000 })
  (fun s=> ([(2,.pointer (some ⟨b2,0,none⟩)),(3,.pointer (some ⟨b3,0,none⟩))],[(b3,true,.cells ⟨[.int .i64 (s.1.2.1:Nat),.int .i64 (s.1.2.2:Nat)]⟩ 169 (0,0)),(b2,true,.cells ⟨[.int .i64 (s.1.1.1:Nat),.int .i64 (s.1.1.2:Nat)]⟩ 169 (0,0))])) (fun s=> s.1.1.2+s.1.2.2) ?_ ⟨((a,b),(x,d)),rfl,hb,hd,ha,hb2,hc2,hd2⟩)
 rintro⟨⟨⟨p,q⟩,⟨u,w⟩⟩,g1,g2,g3,g4,g5,g6,g7⟩ ih;simp only at g1 g2 g3 g4 g5 g6 g7;show Tc M St _ _ H _ [(2,.pointer (some ⟨b2,0,none⟩)),(3,.pointer (some ⟨b3,0,none⟩))] [(b3,true,.cells ⟨[.int .i64 (u:Nat),.int .i64 (w:Nat)]⟩ 169 (0,0)),(b2,true,.cells ⟨[.int .i64 (p:Nat),.int .i64 (q:Nat)]⟩ 169 (0,0))] _ _;rw[<-g1] at hK;have e1:intBin .quo .i64 ((p:Nat):Int) ((q:Nat):Int)=some (.int .i64 ((p/q:Nat):Int)):=by
  rw[quo_in oM oM oM];rfl
 have e2:intBin .quo .i64 ((u:Nat):Int) ((w:Nat):Int)=some (.int .i64 ((u/w:Nat):Int)):=by
  rw[quo_in oM oM oM];rfl
 have e3:intBin .rem .i64 ((p:Nat):Int) ((q:Nat):Int)=some (.int .i64 ((p%q:Nat):Int)):=by
  rw[rem_in oM oM];rfl
 have e4:intBin .rem .i64 ((u:Nat):Int) ((w:Nat):Int)=some (.int .i64 ((u%w:Nat):Int)):=by
  rw[rem_in oM oM];rfl
 have h1:=Nat.mod_lt p g2;have h2:=Nat.mod_lt u g3;by_cases c0:p/q=u/w
 ·have e5:intBin .eql .i64 ((p/q:Nat):Int) ((u/w:Nat):Int)=some (.bool true):=eql_t (by rw[c0]);rw[abv_rem c0] at hK;refine U2 ?_;refine Tc.dr [] [] mixed rfl ?_;refine V11 0 ?_;refine .dn ?_;refine U4 ?_;refine Tc.dr4 [11] [0] [13] [1] [0,1] mixed rfl ?_;refine Ta.tka 0 kR rfl rfl rfl dE rfl rfl (OpV.take .fa) ?_;refine Ta.tka 1 kR rfl rfl rfl dE rfl rfl (OpV.take (.ld 0)) ?_;refine Ta.tka 2 kR rfl rfl rfl dE rfl rfl (OpV.take .fa) ?_;refine Ta.tka 3 kR rfl rfl rfl dE rfl rfl (OpV.take (.ld 0)) ?_;refine Ta.tka 4 kR rfl rfl rfl dE rfl rfl (OpV.take (.it (zz:=(by assumption)))) ?_;refine Ta.tkb 5 kR rfl rfl rfl dE rfl rfl (OpV.take .fa) ?_;refine Ta.tkb 6 kR rfl rfl rfl dE rfl rfl (OpV.take (.ld 0)) ?_;refine Ta.tkb 7 kR rfl rfl rfl dE rfl rfl (OpV.take .fa) ?_;refine Ta.tkb 8 kR rfl rfl rfl dE rfl rfl (OpV.take (.ld 0)) ?_;refine Ta.tkb 9 kR rfl rfl rfl dE rfl rfl (OpV.take (.it (zz:=(by assumption)))) ?_;refine Ta.tka 10 kR rfl rfl rfl dE rfl rfl (OpV.take .fa) ?_;refine .ea 11 rfl (.st 1 (zz:=⟨S4.mk sL (.inl kR) (.inr sL),?_⟩));refine Ta.tkb 12 kR rfl rfl rfl dE rfl rfl (OpV.take .fa) ?_;refine .ea 13 rfl (.st 0 (zz:=⟨S4.mk sL (.inl kR) (.inl kR),?_⟩));refine .dn ?_;refine U2 ?_;by_cases c1:p%q=0
  ·rw[c1,abv_zero_left] at hK;refine U18 ?_;refine .rt hK func86 results86 [_] ?_;exact okB
  ·by_cases c2:u%w=0
   ·rw[c2,abv_zero_right g3,decide_eq_true (show 0<p%q by omega)] at hK;refine U18 ?_;refine .rt hK func86 results86 [_] ?_;exact okB
   ·refine U27 ?_;exact Tc.db (ih ⟨((w,u%w),(q,p%q)),by simp only;rw[<-g1,abv_rem c0,abv_turn],by simp only;omega,by simp only;omega,g7,by simp only;omega,g5,by simp only;omega⟩ (by simp only;omega))
 ·have e5:intBin .eql .i64 ((p/q:Nat):Int) ((u/w:Nat):Int)=some (.bool false):=eql_f oM;rw[abv_quo g2 g3 c0] at hK;have e6:intBin .gtr .i64 ((p/q:Nat):Int) ((u/w:Nat):Int)=some (.bool (decide (u/w<p/q))):=by
   by_cases c3:u/w<p/q
   ·rw[decide_eq_true c3];exact gtr_t oM
   ·rw[decide_eq_false c3];exact gtr_f oM
  refine U2 ?_;refine Tc.dr [] [] mixed rfl ?_;refine V11 0 ?_;refine .dn ?_;refine U3 ?_;refine Tc.dr [] [] mixed rfl ?_;refine V12 0 ?_;refine .dn ?_;refine .rt hK func86 results86 [_] ?_;exact okB
theorem Less_c(a b x d:Nat)(hb:0<b)(hd:0<d)(ha:a<4000000000000000000)(hb2:b<4000000000000000000)(hc2:x<4000000000000000000)(hd2:d<4000000000000000000):
  CallT M 18 #[frV a b,frV x d] H (fun v H'=> H.le H'/\v=.bool (abv x d a b)):=by
 refine .en func18 ntmps18 fun St c cs hK=> ?_;refine U2 ?_;refine .bo fun b2=> ?_;refine .bo fun b3=> ?_;refine U3 ?_;refine Tc.db (Tc.loopInv (σ:= { s:(Nat×Nat)×Nat×Nat//abv s.2.1 s.2.2 s.1.1 s.1.2=abv x d a b/\0<s.1.2/\0<s.2.2/\s.1.1<4000000000000000000/\s.1.2<4000000000000000000/\s.2.1<4000000000000000000/\s.2.2<4000000000000000000 })
  (fun s=> ([(2,.pointer (some ⟨b2,0,none⟩)),(3,.pointer (some ⟨b3,0,none⟩))],[(b3,true,.cells ⟨[.int .i64 (s.1.2.1:Nat),.int .i64 (s.1.2.2:Nat)]⟩ 59 (0,0)),(b2,true,.cells ⟨[.int .i64 (s.1.1.1:Nat),.int .i64 (s.1.1.2:Nat)]⟩ 59 (0,0))])) (fun s=> s.1.1.2+s.1.2.2) ?_ ⟨((a,b),(x,d)),rfl,hb,hd,ha,hb2,hc2,hd2⟩)
 rintro⟨⟨⟨p,q⟩,⟨u,w⟩⟩,g1,g2,g3,g4,g5,g6,g7⟩ ih;simp only at g1 g2 g3 g4 g5 g6 g7;show Tc M St _ _ H _ [(2,.pointer (some ⟨b2,0,none⟩)),(3,.pointer (some ⟨b3,0,none⟩))] [(b3,true,.cells ⟨[.int .i64 (u:Nat),.int .i64 (w:Nat)]⟩ 59 (0,0)),(b2,true,.cells ⟨[.int .i64 (p:Nat),.int .i64 (q:Nat)]⟩ 59 (0,0))] _ _;rw[<-g1] at hK;have e1:intBin .quo .i64 ((p:Nat):Int) ((q:Nat):Int)=some (.int .i64 ((p/q:Nat):Int)):=by
  rw[quo_in oM oM oM];rfl
 have e2:intBin .quo .i64 ((u:Nat):Int) ((w:Nat):Int)=some (.int .i64 ((u/w:Nat):Int)):=by
  rw[quo_in oM oM oM];rfl
 have e3:intBin .rem .i64 ((p:Nat):Int) ((q:Nat):Int)=some (.int .i64 ((p%q:Nat):Int)):=by
  rw[rem_in oM oM];rfl
 have e4:intBin .rem .i64 ((u:Nat):Int) ((w:Nat):Int)=some (.int .i64 ((u%w:Nat):Int)):=by
  rw[rem_in oM oM];rfl
 have h1:=Nat.mod_lt p g2;have h2:=Nat.mod_lt u g3;by_cases c0:u/w=p/q
 ·have e5:intBin .neq .i64 ((p/q:Nat):Int) ((u/w:Nat):Int)=some (.bool false):=neq_f (by rw[c0]);rw[abv_rem c0] at hK;refine U2 ?_;refine Tc.dr [] [] mixed rfl ?_;refine V12 0 ?_;refine .dn ?_;refine U ?_;refine Tc.dr [] [] mixed rfl ?_;refine V12 0 ?_;refine .dn ?_;refine U11 ?_;by_cases c1:p%q=0
  ·by_cases c2:u%w=0
   ·rw[c2,abv_zero_left] at hK;refine U19 ?_;refine .rt hK func18 results18 [_] ?_;exact okB
   ·rw[c1,abv_zero_right g2,decide_eq_true (show 0<u%w by omega)] at hK;refine U19 ?_;refine .rt hK func18 results18 [_] ?_;exact okB
  ·by_cases c2:u%w=0
   ·rw[c2,abv_zero_left] at hK;refine U19 ?_;refine .rt hK func18 results18 [_] ?_;exact okB
   ·refine U23 ?_;exact Tc.db (ih ⟨((w,u%w),(q,p%q)),by simp only;rw[<-g1,abv_rem c0,abv_turn],by simp only;omega,by simp only;omega,g7,by simp only;omega,g5,by simp only;omega⟩ (by simp only;omega))
 ·have e5:intBin .neq .i64 ((p/q:Nat):Int) ((u/w:Nat):Int)=some (.bool true):=neq_t oM;rw[abv_quo g3 g2 c0] at hK;have e6:intBin .lss .i64 ((p/q:Nat):Int) ((u/w:Nat):Int)=some (.bool (decide (p/q<u/w))):=by
   by_cases c3:p/q<u/w
   ·rw[decide_eq_true c3];exact lss_t oM
   ·rw[decide_eq_false c3];exact lss_f oM
  refine U2 ?_;refine Tc.dr [] [] mixed rfl ?_;refine V12 0 ?_;refine .dn ?_;refine U ?_;refine Tc.dr [] [] mixed rfl ?_;refine V12 0 ?_;refine .dn ?_;refine U15 ?_;refine .rt hK func18 results18 [_] ?_;exact okB
theorem of_c(a b:Nat)(hb:0<b)(ha:a<4000000000000000000)(hb2:b<4000000000000000000):CallT M 85 #[frV a b] H (fun v H'=> H.le H'/\v=frV (lowt a b).1 (lowt a b).2):=by
 refine .en func85 ntmps85 fun St c cs hK=> ?_;refine U2 ?_;refine .bo fun b1=> ?_;refine .al fun b2=> ?_;refine U7 ?_;refine .cl (fun H hs=> lowest_c M H a b hb ha hb2) ?_;refine U2 ?_;refine .rt hK func85 results85 [_] ?_;exact okB
theorem times_c(a b x d:Nat)(hb:0<b)(hd:0<d)(ha:a<1000000000)(hb2:b<1000000000)(hc2:x<1000000000)(hd2:d<1000000000):CallT M 137 #[frV a b,frV x d] H (fun v H'=> H.le H'/\v=frV (lowt (a*x) (b*d)).1 (lowt (a*x) (b*d)).2):=by
 have h1:a*x<4000000000000000000:=Nat.lt_of_lt_of_le (Nat.mul_lt_mul'' ha hc2) dE;have h2:b*d<4000000000000000000:=Nat.lt_of_lt_of_le (Nat.mul_lt_mul'' hb2 hd2) dE;have e1:intBin .mul .i64 ((a:Nat):Int) ((x:Nat):Int)=some (.int .i64 ((a*x:Nat):Int)):=by
  rw[mul_in (by rw[<-Int.natCast_mul];omega) (by rw[<-Int.natCast_mul];omega),Int.natCast_mul]
 have e2:intBin .mul .i64 ((b:Nat):Int) ((d:Nat):Int)=some (.int .i64 ((b*d:Nat):Int)):=by
  rw[mul_in (by rw[<-Int.natCast_mul];omega) (by rw[<-Int.natCast_mul];omega),Int.natCast_mul]
 refine .en func137 ntmps137 fun St c cs hK=> ?_;refine U2 ?_;refine .bo fun b2=> ?_;refine .bo fun b3=> ?_;refine .al fun b4=> ?_;refine U13 ?_;refine .cl (fun H hs=> lowest_c M H (a*x) (b*d) (Nat.mul_pos hb hd) h1 h2) ?_;refine U2 ?_;refine .rt hK func137 results137 [_] ?_;exact okB
theorem fraction_c(a b:Nat):CallT M 88 #[frV a b] H (fun v H'=> H.le H'/\v=frV a b):=by
 refine .en func88 ntmps88 fun St c cs hK=> ?_;refine U2 ?_;refine .bo fun b1=> ?_;refine .al fun b2=> ?_;refine U10 ?_;refine .rt hK func88 results88 [_] ?_;exact okB
theorem isTraffic_c(a b:Nat)(ha:a<=12)(hb:1<=b/\b<=4):CallT M 47 #[frV a b] H (fun v H'=> H.le H'/\v=.bool true):=by
 have h1:=fun(H':View)=> isV (betweenL_c M H' a 0 12) (w':=.bool true) (by rw[decide_eq_true oM]);have h2:=fun(H':View)=> isV (betweenL_c M H' b 1 4) (w':=.bool true) (by rw[decide_eq_true oM]);refine .en func47 ntmps47 fun St c cs hK=> ?_;refine U2 ?_;refine .bo fun b1=> ?_;refine U6 ?_;refine .cl (fun H hs=> h1 H) ?_;refine U3 ?_;refine .cl (fun H hs=> h2 H) ?_;refine U3 ?_;refine .rt hK func47 results47 [_] ?_;exact okB
theorem isLimit_c(a b:Nat)(ha:a<=b)(hb:1<=b/\b<=100):CallT M 48 #[frV a b] H (fun v H'=> H.le H'/\v=.bool true):=by
 have h1:=fun(H':View)=> isV (betweenL_c M H' b 1 100) (w':=.bool true) (by rw[decide_eq_true oM]);have h2:=fun(H':View)=> isV (betweenL_c M H' a 0 b) (w':=.bool true) (by rw[decide_eq_true oM]);refine .en func48 ntmps48 fun St c cs hK=> ?_;refine U2 ?_;refine .bo fun b1=> ?_;refine U6 ?_;refine .cl (fun H hs=> h1 H) ?_;refine U5 ?_;refine .cl (fun H hs=> h2 H) ?_;refine U3 ?_;refine .rt hK func48 results48 [_] ?_;exact okB
theorem isTrunks_c(n:Nat)(h:n<=7):CallT M 87 #[.int .i64 (n:Nat)] H (fun v H'=> H.le H'/\v=.bool true):=by
 have h1:=fun(H':View)=> isV (betweenL_c M H' n 0 7) (w':=.bool true) (by rw[decide_eq_true oM]);refine .en func87 ntmps87 fun St c cs hK=> ?_;refine U7 ?_;refine .cl (fun H hs=> h1 H) ?_;refine U2 ?_;refine .rt hK func87 results87 [_] ?_;exact okB
end
end Go.Proofs.YtcagolloalgfiaaGreatDoor
namespace Go.RL
open Go.Conc
set_option maxRecDepth 10000
def IterU {P:Program}(M:Md P){α ε:Type}(fv:Value)(xs:List α)(arg:α->ε->List Value)(B B':α->ε->Bl)(Cap:View->Prop)(A:Bl)(H:View):Prop:=
 ∀ (l:Nat) (J:List α->View->Prop) (D:View->Prop),(∀rest H',J rest H'->Cap H')->(∀H',¬J [] H')->J xs H-> 
  (∀x rest e H' H'',x∈xs->J (x::rest) H'->SymSt H' (B x e) H''->FnT M (.func (.yield l) #[] #[]) (arg x e) H'' fun v H3=> (v=.bool true/\∃H₂,SymSt H₂ (B' x e) H3/\J rest H₂)\/(v=.bool false/\D H3))-> 
  ∀H',SymSt H A H'->FnT M fv [.func (.yield l) #[] #[]] H' fun _ H3=> ∃H₁,H₁.le H3/\D H₁
section
variable {P:Program}{M:Md P}{St:View->Goroutine->Prop}{n:Nat}{b:FB}{H₀:View}{cs:List Frame}{R:Rg}{L:Bl}{ds:List Deferred}{k:List Item}
variable {L₀ A:Bl}{α ε:Type}{fv:Value}{xs:List α}{arg:α->ε->List Value}{B B':α->ε->Bl}{Cap:View->Prop}
theorem Tc.rangeU {f:Operand}{assign body:Code}{ts:List Nat}{pa:Array Tmp}(I:List α->View->Bl->Prop)(Dn:Code->View->Bl->Prop)(hpa:pa=ts.toArray)(hrd:b.rd=none)(hf:evR R f=some fv)(hA:L=A++L₀)(hit:∀H,Cap H->IterU M fv xs arg B B' Cap A H)
  (hC:∀H H',H.le H'->Cap H->Cap H') (hI:∀rest H₁ L₁,I rest H₁ L₁->Cap H₁) (hts:(ts.all fun t=> Nat.blt t n)=true) (hlen:∀x e,ts.length=(arg x e).length) (h0:I xs H₀ L₀) (hend:∀H₁ L₁,¬I [] H₁ L₁)
  (round:∀r,RoundOk M n b R arg B B' ts assign body I Dn xs r fun L₁=> (r,true,.deferred (some []))::L₁)
  (hkj:∀r j H₁ L₁,Dn j H₁ L₁->Tc M St n b H₁ cs R ((r,true,.deferred (some []))::L₁) (markOf r::ds) (.code j::k)):
  Tc M St n b H₀ cs R L ds (.code (.rangeFunc f pa assign body)::k):=by
 subst hpa;refine Tc.rangeFunc hrd hf (fun l r j H₁ L₁=> ∃j',j=some j'/\Dn j' H₁ L₁) (fun l r tmps H hr hs=> ?_) (fun l r j H₁ L₁ hz=> ?_)
 ·rw[hA] at hs;obtain⟨H',hsA,hs⟩:=(hs.perm (L':=A++(l,true,.loop (Loop.fresh b.fn tmps ts.toArray assign body r))::(r,true,.deferred (some []))::L₀) (by
   refine(List.perm_middle.trans ?_);exact .cons _ List.perm_middle)).unappend
  have hcap:Cap H':=hC _ _ hs.base (hI _ _ _ h0);have hJ:∀rest Hv,(∃H₁ L₁,SymSt H₁ ((l,true,.loop (Loop.fresh b.fn tmps ts.toArray assign body r))::(r,true,.deferred (some []))::L₁) Hv/\I rest H₁ L₁)->Cap Hv:=by
   rintro rest Hv ⟨H₁,L₁,h1,h2⟩;exact hC _ _ h1.base (hI _ _ _ h2)
  refine FnT.mono (hit H' hcap l (fun rest Hv=> ∃H₁ L₁,SymSt H₁ ((l,true,.loop (Loop.fresh b.fn tmps ts.toArray assign body r))::(r,true,.deferred (some []))::L₁) Hv/\I rest H₁ L₁)
   (fun Hv=> ∃H₁ L₁ j,SymSt H₁ ((l,true,.loop (Loop.jumped (Loop.fresh b.fn tmps ts.toArray assign body r) j))::(r,true,.deferred (some []))::L₁) Hv/\Dn j H₁ L₁) hJ (by rintro Hv ⟨H₁,L₁,_,h2⟩;exact hend _ _ h2) ⟨H₀,L₀,hs,h0⟩ ?_ H hsA) ?_
  ·rintro x rest e H' H'' hsuf ⟨H₁,L₁,h1,h2⟩ h3;refine FnT.round (i:=(B x e).length) (lp:=Loop.fresh b.fn tmps ts.toArray assign body r) (l:=l) (h1.append h3) (by simp) rfl hts (hlen x e) hr fun St c cs hK=> ?_;exact round r x rest e l tmps assign body H₁ L₁ hsuf h2 _ St c cs hK (fun H' H₂ L₂ g1 g2=> by
    obtain⟨Hm,g3,g4⟩:=g1.unappend;exact .inl ⟨rfl,Hm,g3,H₂,L₂,g4,g2⟩) (fun H' H₂ L₂ j g1 g2=> .inr ⟨rfl,H₂,L₂,j,g1,g2⟩)
  ·rintro v H' ⟨Hv,hle,⟨H₁,L₁,j,g1,g2⟩⟩;exact⟨H₁,L₁,Loop.jumped (Loop.fresh b.fn tmps ts.toArray assign body r) j,g1.mono hle,(fun h=> nomatch h),⟨j,rfl,g2⟩⟩
 ·obtain⟨j',rfl,hz⟩:=hz;exact hkj r j' H₁ L₁ hz
end
end Go.RL
namespace Go.Proofs.YtcagolloalgfiaaGreatDoor
open Go.RL Go.Proofs.Tryz
set_option maxRecDepth 10000
set_option maxHeartbeats 16000000
def lossN(t:Nat):Nat->Nat×Nat
 | 0=> (1,1)
 | n+1=> let l:=lossN t n;let x:=lowt (t*l.1) (1*l.2);lowt x.1 ((n+1)*x.2+x.1)
theorem lossN_bound:∀t:Fin 6,∀n:Fin 9,0<(lossN t n).2/\(lossN t n).1<1000000000/\(lossN t n).2<1000000000:=by decide +kernel
theorem lossN_in {t n:Nat}(ht:t<=5)(hn:n<=8):0<(lossN t n).2/\(lossN t n).1<1000000000/\(lossN t n).2<1000000000:=lossN_bound ⟨t,oM⟩ ⟨n,oM⟩
def lossF(b1:Nat):Value:=.func (.func 136) #[] #[.pointer (some ⟨b1,0,none⟩)]
def CapO(t b1:Nat)(H:View):Prop:=∃f,H b1=some (f,.cells ⟨[.int .i64 (t:Nat),.int .i64 ((1:Nat):Int)]⟩ 169 (0,0))
theorem CapO.le {t b1:Nat}(H H':View)(h:H.le H')(c:CapO t b1 H):CapO t b1 H':=c.imp fun _ e=> h _ _ e
def upFrom(n:Nat):Nat->List Nat
 | 0=> []
 | d+1=> n::upFrom (n+1) d
theorem upFrom_in:∀ {d n x:Nat},x∈upFrom n d->n<=x/\x<n+d
 | 0,_,_,h=> by cases h
 | d + 1,n,x,h=> by
  rcases List.mem_cons.1 h with rfl|h
  ·omega
  ·have:=upFrom_in h;omega
section
variable(M:Md prog)(H:View)
theorem losses_c(t:Nat):CallT M 89 #[frV t 1] H (fun v H'=> H.le H'/\∃b1,v=lossF b1/\CapO t b1 H'):=by
 refine .en func89 ntmps89 fun St c cs hK=> ?_;refine U2 ?_;refine .bo fun b1=> ?_;refine U7 ?_;refine .rt hK func89 results89 [_] ?_;exact fun H' hs=> ⟨hs.base,b1,rfl,true,hs.get (i:=0) rfl⟩
theorem losses_it(t:Nat)(ht:t<=5)(b1:Nat)(hC:CapO t b1 H):
  IterU M (lossF b1) (upFrom 0 8) (fun n (_:Unit)=> [.int .i64 (n:Nat),frV (lossN t n).1 (lossN t n).2]) (fun _ _=> []) (fun _ _=> []) (CapO t b1) [] H:=fun l J D hcap hend h0 hy H₀ hs₀=> by
 refine FnT.of (first:= []) (captured:= [_]) ca136 rfl ?_;obtain⟨fa,h5⟩:=hC;refine CallT.enter (vs:= [.func (.yield l) #[] #[],.pointer (some ⟨b1,0,none⟩)]) func136 rfl ntmps136 (Nat.le_of_ble_eq_true rfl) (hs₀) fun St c cs hK=> ?_;refine U3 ?_;refine .al fun b3=> ?_;refine U7 ?_;refine Tc.db (Tc.loopB (σ:= { s:Nat×Nat×View//s.1+s.2.1=8/\J (upFrom s.1 s.2.1) s.2.2 })
  (fun s=> (s.1.2.2,[(0,.func (.yield l) #[] #[]),(1,.pointer (some ⟨b1,0,none⟩)),(3,.pointer (some ⟨b3,0,none⟩)),(4,.int .i64 (s.1.1:Nat))],[(b3,true,.cells ⟨(frV (lossN t s.1.1).1 (lossN t s.1.1).2).cells.toList⟩ 169 (0,0))])) (fun s=> s.1.2.1) ?_ ⟨(0,8,H),rfl,h0⟩)
 rintro⟨⟨n,d,H₁⟩,g1,j1⟩ ih;simp only at g1 j1;show Tc M St _ _ H₁ _ [(0,.func (.yield l) #[] #[]),(1,.pointer (some ⟨b1,0,none⟩)),(3,.pointer (some ⟨b3,0,none⟩)),(4,.int .i64 (n:Nat))] [(b3,true,.cells ⟨(frV (lossN t n).1 (lossN t n).2).cells.toList⟩ 169 (0,0))] _ _;cases d with
 | zero=> exact(hend _ j1).elim
 | succ d=>
  have hn8:n<=7:=by omega
  have hmem:n∈upFrom 0 8:=by
   have:∀n:Fin 8,n.1∈upFrom 0 8:=by decide
   exact this ⟨n,oM⟩
  obtain⟨p1,p2,p3⟩:=lossN_in ht (show n<=8 by omega);obtain⟨q1,q2,q3⟩:=lossN_in ht (show n+1<=8 by omega);refine U6 ?_;refine To.callF rfl rfl rfl rfl rfl rfl dE (hy n (upFrom (n+1) d) () H₁ H₁ hmem j1 (SymSt.nil H₁)) (fun v H₃ hv=> ?_);rcases hv with ⟨rfl,H4,h8,j3⟩|⟨rfl,hD⟩
  ·refine To.lower h8.base ?_;obtain⟨fb,h6⟩:=hcap _ _ j3;have hx1:t*(lossN t n).1<=5000000000:=by
    have:=Nat.mul_le_mul ht (Nat.le_of_lt p2);omega
   have e0:lossN t (n+1)=lowt (lowt (t*(lossN t n).1) (1*(lossN t n).2)).1 ((n+1)*(lowt (t*(lossN t n).1) (1*(lossN t n).2)).2+(lowt (t*(lossN t n).1) (1*(lossN t n).2)).1):=rfl;have hl:=lowt_le (t*(lossN t n).1) (1*(lossN t n).2);have hp:=lowt_pos (a:=t*(lossN t n).1) (b:=1*(lossN t n).2) oM;obtain⟨x,hx⟩:∃x,lowt (t*(lossN t n).1) (1*(lossN t n).2)=x:=⟨_,rfl⟩
   have ht1:=fun(H':View)=> times_c M H' t 1 (lossN t n).1 (lossN t n).2 oM p1 oM oM p2 p3;rw[hx] at e0 hl hp ht1;obtain⟨x1,x2⟩:=x;simp only at e0 hl hp ht1;have hm:(n+1)*x2<=8*x2:=Nat.mul_le_mul_right _ oM;have hm0:0<(n+1)*x2:=Nat.mul_pos oM hp;have e1:intBin .mul .i64 ((n:Int)+1) ((x2:Nat):Int)=some (.int .i64 (((n+1)*x2:Nat):Int)):=by
    have e:((n:Int)+1)*(x2:Int)=(((n+1)*x2:Nat):Int):=by rw[Int.natCast_mul];rfl
    rw[mul_in (by rw[e];omega) (by rw[e];omega),e]
   have e2:intBin .add .i64 (((n+1)*x2:Nat):Int) ((x1:Nat):Int)=some (.int .i64 (((n+1)*x2+x1:Nat):Int)):=by
    rw[add_in oM oM];rfl
   have hlow:=fun(H':View)=> lowest_c M H' x1 ((n+1)*x2+x1) oM oM oM;rw[<-e0] at hlow;refine U9 ?_;refine .cl (fun H hs=> ht1 H) ?_;refine .al fun b5=> ?_;refine U13 ?_;refine .cl (fun H hs=> hlow H) ?_;refine U8 ?_;exact Tc.db (ih ⟨(n+1,d,H4),by simp only;omega,j3⟩ (by simp only;omega))
  ·refine U3 ?_;refine .ov hK func136 results136 [] ?_;exact fun H' hs=> ⟨H₃,hs.base,hD⟩
theorem lossOf_c(t n:Nat)(ht:t<=5)(hn:n<=7):CallT M 51 #[frV t 1,.int .i64 (n:Nat)] H (fun v H'=> H.le H'/\v=frV (lossN t n).1 (lossN t n).2):=by
 refine .en func51 ntmps51 fun St c cs hK=> ?_;refine U2 ?_;refine .bo fun b2=> ?_;refine .bo fun b3=> ?_;refine .al fun b4=> ?_;refine U3 ?_;refine .al fun b5=> ?_;refine U5 ?_;refine To.callF rfl rfl rfl rfl rfl rfl dE (FnT.h (losses_c M H t)) (fun v H₁ hv=> ?_);obtain⟨hle,b1,rfl,hcap⟩:=hv;refine U2 ?_;refine Tc.db (R':= [(9,lossF b1),(4,.pointer (some ⟨b4,0,none⟩)),(5,.pointer (some ⟨b5,0,none⟩)),(3,.pointer (some ⟨b3,0,none⟩))]) (L':= [(b5,true,.cells ⟨[.int .i64 0,.int .i64 0]⟩ 169 (0,0)),(b4,true,.cells ⟨[.int .i64 0,.int .i64 0]⟩ 169 (0,0)),(b3,true,.cells ⟨[.int .i64 (n:Nat)]⟩ 3 (0,0))]) ?_;refine Tc.rangeU (A:= []) (ts:= [10,11]) (xs:=upFrom 0 8)
  (fun rest H₂ L₂=> L₂= [(b5,true,.cells ⟨[.int .i64 0,.int .i64 0]⟩ 169 (0,0)),(b4,true,.cells ⟨[.int .i64 0,.int .i64 0]⟩ 169 (0,0)),(b3,true,.cells ⟨[.int .i64 (n:Nat)]⟩ 3 (0,0))]/\H₁.le H₂/\n∈rest)
  (fun j H₂ L₂=> j=.exit 0/\H₁.le H₂/\L₂= [(b5,true,.cells ⟨(frV (lossN t n).1 (lossN t n).2).cells.toList⟩ 169 (0,0)),(b4,true,.cells ⟨[.int .i64 0,.int .i64 0]⟩ 169 (0,0)),(b3,true,.cells ⟨[.int .i64 (n:Nat)]⟩ 3 (0,0))])
  rfl rfl rfl rfl (fun H' hc=> losses_it M H' t ht b1 hc) CapO.le (fun _ _ _ ⟨_,h,_⟩=> CapO.le _ _ h hcap) rfl (fun _ _=> rfl) ⟨rfl,View.le_refl _,by
   have:∀n:Fin 8,n.1∈upFrom 0 8:=by decide
   exact this ⟨n,oM⟩⟩ (fun _ _ ⟨_,_,h⟩=> nomatch h) ?_ ?_
 ·rintro r x rest _ l tmps asg bdy H₂ _ hx ⟨rfl,q1,q2⟩ Q St1 cc1 cs1 hK1 q q';have hx2:=upFrom_in hx;refine U5 ?_;refine .al fun b7=> ?_;refine U2 ?_;refine Tc.beginRound (i:=1) rfl rfl rfl ?_;refine U2 ?_;by_cases c0:x=n
  ·subst c0;refine U11 ?_;refine Tc.leaveRound hK1 (i:=1) rfl (.inr (.inr ⟨_,_,rfl,rfl,rfl⟩)) (fun H' hs=> q' H' H₂ _ _ (hs.less (List.sublist_cons_self ..)) ⟨rfl,q1,rfl⟩)
  ·refine U8 ?_;refine Tc.leaveRound hK1 (i:=1) rfl (.inl ⟨rfl,rfl⟩) (fun H' hs=> q H' H₂ _ (hs.less (List.sublist_cons_self ..)) ⟨rfl,q1,?_⟩);rcases List.mem_cons.1 q2 with h|h
   ·exact(c0 h.symm).elim
   ·exact h
 ·rintro r j H₂ _ ⟨rfl,q1,rfl⟩;refine U6 ?_;refine Tc.retD (E:=en) (i:=0) hK func51 results51 (vs:= [_]) rfl (by refine⟨⟨2,_,_,_,_,_,_,_,rfl,rfl,rfl,rfl⟩,?_⟩;exact trivial) ?_;exact fun H' hs=> ⟨View.le_trans hle (View.le_trans q1 hs.base),rfl⟩
theorem lowt_one(t:Nat):lowt t 1=(t,1):=by unfold lowt;simp
theorem abv_low {a b x d:Nat}(hd:0<d):abv a b (lowt x d).1 (lowt x d).2=abv a b x d:=by
 obtain⟨g,h1,h2,h3⟩:=lowt_eq (a:=x) hd;unfold abv;rw[decide_eq_decide];generalize lowt x d=y at h2 h3;subst h2 h3;rw[Nat.mul_right_comm,<-Nat.mul_assoc];exact(Nat.mul_lt_mul_right h1).symm
def okLoss(t k n:Nat):Bool:=!(abv (lossN t n).1 (lossN t n).2 k 100)
def enoughV:Option Nat->Value
 | some n=> .tuple ⟨[.int .i64 (n:Nat),.bool true,.int .i64 0]⟩
 | none=> .tuple ⟨[.int .i64 0,.bool false,.int .i64 0]⟩
theorem told_c(t n:Nat)(ht:t<=5)(hn:n<=7):CallT M 50 #[frV t 1,.int .i64 (n:Nat),.func (.func 51) #[] #[]] H (fun v H'=> H.le H'/\v=.tuple ⟨[frV (lossN t n).1 (lossN t n).2,.int .i64 0]⟩):=by
 have hof:=fun(H':View)=> of_c M H' t 1 oM oM oM;rw[lowt_one] at hof;refine .en func50 ntmps50 fun St c cs hK=> ?_;refine U2 ?_;refine .bo fun b3=> ?_;refine .al fun b6=> ?_;refine U6 ?_;refine .cl (fun H hs=> isTraffic_c M H t 1 oM oM) ?_;refine U3 ?_;refine .cl (fun H hs=> isTrunks_c M H n hn) ?_;refine U9 ?_;refine .cl (fun H hs=> hof H) ?_;refine U ?_;refine .cl (fun H hs=> lossOf_c M H t n ht hn) ?_;refine .cl (fun H hs=> fraction_c M H _ _) ?_;refine U3 ?_;refine .rt hK func50 results50 [_,_] ?_;exact okB
theorem Loss_c(t n:Nat)(ht:t<=5)(hn:n<=7):CallT M 17 #[frV t 1,.int .i64 (n:Nat)] H (fun v H'=> H.le H'/\v=.tuple ⟨[frV (lossN t n).1 (lossN t n).2,.int .i64 0]⟩):=by
 refine .en func17 ntmps17 fun St c cs hK=> ?_;refine U2 ?_;refine .bo fun b2=> ?_;refine .al fun b4=> ?_;refine U6 ?_;refine .cl (fun H hs=> told_c M H t n ht hn) ?_;refine U5 ?_;refine .rt hK func17 results17 [_,_] ?_;exact okB
theorem bears_c(t n k:Nat)(ht:t<=5)(hn:n<=7)(hk:k<=100):CallT M 49 #[frV t 1,.int .i64 (n:Nat),frV k 100] H (fun v H'=> H.le H'/\v=.bool (okLoss t k n)):=by
 have hof:=fun(H':View)=> of_c M H' t 1 oM oM oM;rw[lowt_one] at hof;have hof2:=fun(H':View)=> of_c M H' k 100 oM oM oM;obtain⟨p1,p2,p3⟩:=lossN_in ht (show n<=8 by omega);have hl:=lowt_le k 100;have hp:=lowt_pos (a:=k) (b:=100) oM;have hab:=fun(H':View)=> above_c M H' (lossN t n).1 (lossN t n).2 (lowt k 100).1 (lowt k 100).2 p1 hp oM oM oM oM;rw[abv_low oM] at hab;refine .en func49 ntmps49 fun St c cs hK=> ?_;refine U2 ?_;refine .bo fun b3=> ?_;refine .bo fun b5=> ?_;refine U3 ?_;refine Tc.dr [] [] mixed rfl ?_;refine .nn 0 ?_;refine .z 1 rfl (OpV.tk fun H hs=> hof H) ?_;refine .nn 2 ?_;refine .z 3 rfl (OpV.tk fun H hs=> lossOf_c M H t n ht hn) ?_;refine .nn 4 ?_;refine .z 5 rfl (OpV.tk fun H hs=> hof2 H) ?_;refine .z 6 rfl (OpV.tk fun H hs=> hab H) ?_;refine V2 7 ?_;refine .dn ?_;refine .rt hK func49 results49 [_] ?_;exact okB
theorem Enough_c(t k:Nat)(ht:t<=5)(hk:k<=100):CallT M 16 #[frV t 1,frV k 100] H (fun v H'=> H.le H'/\v=enoughV (firstTo (okLoss t k) 8)):=by
 refine .en func16 ntmps16 fun St c cs hK=> ?_;refine U2 ?_;refine .bo fun b2=> ?_;refine .bo fun b3=> ?_;refine U8 ?_;refine .cl (fun H hs=> isTraffic_c M H t 1 oM oM) ?_;refine U3 ?_;refine .cl (fun H hs=> isLimit_c M H k 100 oM oM) ?_;refine U11 ?_;refine Tc.db (Tc.loopInv (σ:= { n:Nat//n<=8/\firstTo (okLoss t k) n=none })
  (fun s=> ([(2,.pointer (some ⟨b2,0,none⟩)),(3,.pointer (some ⟨b3,0,none⟩)),(16,.int .i64 (s.1:Nat))],[(b3,true,.cells ⟨(frV k 100).cells.toList⟩ 59 (0,0)),(b2,true,.cells ⟨(frV t 1).cells.toList⟩ 59 (0,0))])) (fun s=> 8-s.1) ?_ ⟨0,oM,rfl⟩)
 rintro⟨n,g1,g2⟩ ih;show Tc M St _ _ H _ [(2,.pointer (some ⟨b2,0,none⟩)),(3,.pointer (some ⟨b3,0,none⟩)),(16,.int .i64 (n:Nat))] [(b3,true,.cells ⟨(frV k 100).cells.toList⟩ 59 (0,0)),(b2,true,.cells ⟨(frV t 1).cells.toList⟩ 59 (0,0))] _ _;by_cases c0:n=8
 ·subst c0;rw[g2] at hK;refine U13 ?_;refine .rt hK func16 results16 [_,_,_] ?_;exact okB
 ·have hb:=fun(H':View)=> bears_c M H' t n k ht (show n<=7 by omega) hk;cases hq:okLoss t k n with
  | true=>
   rw[hq] at hb;have e1:firstTo (okLoss t k) 8=some n:=by
    have h1:firstTo (okLoss t k) (n+1)=some n:=by rw[firstTo,g2,hq];rfl
    exact firstTo_stays h1 8 oM
   rw[e1] at hK;refine U19 ?_;refine .cl (fun H hs=> hb H) ?_;refine U9 ?_;refine .rt hK func16 results16 [_,_,_] ?_;exact okB
  | false=>
   rw[hq] at hb;refine U19 ?_;refine .cl (fun H hs=> hb H) ?_;refine U8 ?_;exact Tc.db (ih ⟨n+1,oM,by rw[firstTo,g2,hq];rfl⟩ (by simp only;omega))
end
theorem firstTo_lt {p:Nat->Bool}:∀m {n:Nat},firstTo p m=some n->n<m/\p n=true/\∀i,i<n->p i=false
 | 0,_,h=> by cases h
 | m + 1,n,h=> by
  rw[firstTo] at h;cases e:firstTo p m with
  | some j=>
   rw[e] at h;have:=firstTo_lt m e;cases h
   exact⟨oM,this.2⟩
  | none=>
   rw[e] at h;by_cases hp:p m=true
   ·rw[if_pos hp] at h;cases h
    exact⟨oM,hp,(firstTo_none m).1 e⟩
   ·rw[if_neg hp] at h;cases h
section
variable(M:Md prog)(H:View)
theorem TopB_w {St:View->Goroutine->Prop}{cs:List Frame}(hR:∀(H₀:View) (R:Rg) (L:Bl) (kk:List Item),lk R 16=some (.bool true)->H.le H₀->Tc M St 349 ⟨3,.normal,none⟩ H₀ cs R L [] (.code .ret::kk))(hG:Glob H)(hS:Sig H)(hC:Sg.Glob H)(k:Bk)(A:Option Addr)(lc:Nat)(B:Option Addr)(tc:Nat)(hk:BkAt H k A lc B tc)(hfit:k.fit=true)(hnl:k.nl≠0)(q:Sg.Lk)(hq:q.ok=true)(p0 p:Int)(hp0:0<=p0/\p0<256)(hp:0<=p/\p<256)(Y:Option Addr)(l:List Int)(n yc:Nat)(hn:n=l.length)(hc:n<=yc)(hY:Sg.Picks H Y l)
  (H₇:View) (h7:H.le H₇) (b9 b10:Nat) (t:Nat) (ht:t<=5):
  Tc M St 349 ⟨3,.normal,none⟩ H₇ cs [(4,.slice Y n yc),(6,.int .u8 p0),(7,.int .u8 p),(9,.pointer (some ⟨b9,0,none⟩)),(10,.pointer (some ⟨b10,0,none⟩)),(24,.int .i64 (t:Nat))] [(b10,true,.cells ⟨(k.val A lc B tc).cells.toList⟩ 36 (0,0)),(b9,true,.cells ⟨q.val.cells.toList⟩ 32 (0,0))] [] [.code (headS (dropS 14 (bodyOf Tryz.f3))),.code (dropS 15 (bodyOf Tryz.f3))]:=by
 have hend:=TopC_w M H hR hG hS hC k A lc B tc hk hfit hnl q hq p hp Y l n yc hn hc hY H₇ h7 b9 b10;obtain⟨kk,hkk,hadd,hrm⟩:∃kk:Nat,(1<=kk/\kk<=99)/\intBin .add .i64 1 (p0%99)=some (.int .i64 (kk:Nat))/\intBin .rem .i64 p0 99=some (.int .i64 (p0%99)):=⟨(1+p0%99).toNat,oM,by
  rw[add_in oM oM]
  congr 2
  omega,rem_in oM oM⟩
 have w2:IntKind.i64.wrap p0=p0:=wrap64 oM oM;have hen:=Enough_c M H₇ t kk ht oM;cases hf:firstTo (okLoss t kk) 8 with
 | none=>
  rw[hf] at hen;have hen:=fun(H':View)=> isV (Enough_c M H' t kk ht oM) (w':=.tuple ⟨[.int .i64 0,.bool false,.int .i64 0]⟩) (by rw[hf];rfl);refine U6 ?_;refine .al fun b30=> ?_;refine U7 ?_;refine .cl (fun H hs=> hen H) ?_;refine U32 ?_;exact Tc.db hend
 | some nn=>
  obtain⟨hn8,hok,hlow⟩:=firstTo_lt 8 hf;have hen:=fun(H':View)=> isV (Enough_c M H' t kk ht oM) (w':=.tuple ⟨[.int .i64 (nn:Nat),.bool true,.int .i64 0]⟩) (by rw[hf];rfl);have hlo:=fun(H':View)=> Loss_c M H' t nn ht oM;have hin:=lossN_in ht (show nn<=8 by omega);have hab:abv (lossN t nn).1 (lossN t nn).2 kk 100=false:=by unfold okLoss at hok;simpa using hok
  have hless:=fun(H':View)=> isV (Less_c M H' kk 100 (lossN t nn).1 (lossN t nn).2 oM hin.1 oM oM oM oM) (w':=.bool false) (by rw[hab]);generalize lossN t nn=xy at hlo hin hless;obtain⟨x,y⟩:=xy;simp only at hlo hin hless;by_cases h0:nn=0
  ·refine U6 ?_;refine .al fun b30=> ?_;refine U7 ?_;refine .cl (fun H hs=> hen H) ?_;refine U17 ?_;refine .cl (fun H hs=> In_c M H (nn:Nat) 0 7 true (decide_eq_true oM)) ?_;refine U17 ?_;refine .cl (fun H hs=> hlo H) ?_;refine U3 ?_;refine .al fun b34=> ?_;refine U21 ?_;refine .cl (fun H hs=> hless H) ?_;refine U12 ?_;exact Tc.db hend
  ·obtain⟨m,rfl⟩:∃m,nn=m+1:=⟨nn-1,oM⟩
   have hsub:intBin .sub .i64 ((m+1:Nat):Int) 1=some (.int .i64 (m:Nat)):=by
    rw[sub_in oM oM]
    congr 2
    omega
   have hlo2:=fun(H':View)=> Loss_c M H' t m ht oM;have hin2:=lossN_in ht (show m<=8 by omega);have hab2:abv (lossN t m).1 (lossN t m).2 kk 100=true:=by
    have:=hlow m oM;unfold okLoss at this;simpa using this
   have hless2:=fun(H':View)=> isV (Less_c M H' kk 100 (lossN t m).1 (lossN t m).2 oM hin2.1 oM oM oM oM) (w':=.bool true) (by rw[hab2]);generalize lossN t m=xy at hlo2 hin2 hless2;obtain⟨x2,y2⟩:=xy;simp only at hlo2 hin2 hless2;refine U6 ?_;refine .al fun b30=> ?_;refine U7 ?_;refine .cl (fun H hs=> hen H) ?_;refine U17 ?_;refine .cl (fun H hs=> In_c M H ((m+1:Nat):Int) 0 7 true (decide_eq_true oM)) ?_;refine U17 ?_;refine .cl (fun H hs=> hlo H) ?_;refine U3 ?_;refine .al fun b34=> ?_;refine U21 ?_;refine .cl (fun H hs=> hless H) ?_;refine U16 ?_;refine .cl (fun H hs=> hlo2 H) ?_;refine U23 ?_;refine .cl (fun H hs=> hless2 H) ?_;refine U6 ?_;exact Tc.db hend
end
def upd(w:Nat->Nat)(i n:Nat):Nat->Nat:=fun k=> if k=i then n else w k
def Sb.his(b:Sb):Nat->(Nat->Nat)->List (Nat->Nat)
 | 0,w=> if b.agrees w then [w] else []
 | d+1,w=> (upFrom 0 (b.np (b.ns-(d+1))+1)).flatMap fun n=> b.his d (upd w (b.ns-(d+1)) n)
theorem Sb.his_congr(b:Sb):∀(d:Nat) (w w':Nat->Nat),d<=b.ns->(∀k,k<b.ns-d\/b.ns<=k->w k=w' k)->b.his d w=b.his d w'
 | 0,w,w',_,h=> by
  have:w=w':=funext fun k=> h k oM;rw[this]
 | d + 1,w,w',hd,h=> by
  unfold Sb.his;refine congrArg (fun f=> List.flatMap f _) (funext fun n=> ?_);refine Sb.his_congr b d _ _ oM fun k hk=> ?_;unfold upd;by_cases e:k=b.ns-(d+1)
  ·rw[if_pos e,if_pos e]
  ·rw[if_neg e,if_neg e];exact h k oM
theorem upFrom_cons {n d:Nat}:upFrom n (d+1)=n::upFrom (n+1) d:=rfl
theorem Sb.mem_his(b:Sb):∀(d:Nat) (w x:Nat->Nat),d<=b.ns->(x∈b.his d w<->b.agrees x=true/\(∀k,k<b.ns-d\/b.ns<=k->x k=w k)/\∀k,b.ns-d<=k->k<b.ns->x k<=b.np k)
 | 0,w,x,_=> by
  unfold Sb.his;constructor
  ·intro h;split at h
   ·rename_i ha
    rw[List.mem_singleton] at h;subst h;exact⟨ha,fun _ _=> rfl,fun k h1 h2=> by omega⟩
   ·cases h
  ·rintro⟨h1,h2,_⟩;have:x=w:=funext fun k=> h2 k oM;subst this;rw[if_pos h1];exact List.mem_singleton.2 rfl
 | d + 1,w,x,hd=> by
  unfold Sb.his;rw[List.mem_flatMap];constructor
  ·rintro⟨n,hn,hx⟩;obtain⟨h1,h2,h3⟩:=(b.mem_his d _ x oM).1 hx;have hn2:=upFrom_in hn;refine⟨h1,fun k hk=> ?_,fun k hk1 hk2=> ?_⟩
   ·rw[h2 k oM];unfold upd;rw[if_neg oM]
   ·by_cases e:k=b.ns-(d+1)
    ·rw[h2 k oM];unfold upd;rw[if_pos e,e];omega
    ·exact h3 k oM hk2
  ·rintro⟨h1,h2,h3⟩;have h4:=h3 (b.ns-(d+1)) (Nat.le_refl _) oM;refine⟨x (b.ns-(d+1)),?_,(b.mem_his d _ x oM).2 ⟨h1,fun k hk=> ?_,fun k hk1 hk2=> h3 k oM hk2⟩⟩
   ·have:∀(d n x:Nat),n<=x->x<n+d->x∈upFrom n d:=by
     intro d;induction d with
     | zero=> intro n x h1 h2;omega
     | succ d ih=>
      intro n x h1 h2;rw[upFrom_cons];by_cases e:x=n
      ·subst e;exact List.mem_cons_self ..
      ·exact List.mem_cons_of_mem _ (ih _ _ oM oM)
    exact this _ _ _ (Nat.zero_le _) oM
   ·unfold upd;by_cases e:k=b.ns-(d+1)
    ·rw[if_pos e,e]
    ·rw[if_neg e];exact h2 k oM
def zeroW:Nat->Nat:=fun _=> 0
def Sb.histories(b:Sb):List (Nat->Nat):=b.his b.ns zeroW
theorem cameL_st(w:Nat->Nat){i:Nat}(hi:i<4)(n:Nat):stL (cameL w) (0+(i:Int).toNat*1) [.int .i64 (n:Nat)]=cameL (upd w i n):=by
 match i,hi with
 | 0,_=> rfl
 | 1,_=> rfl
 | 2,_=> rfl
 | 3,_=> rfl
theorem cameL_ble(w:Nat->Nat){i:Nat}(hi:i<4):Nat.ble (0+(i:Int).toNat*1+1) (cameL w).length=true:=by
 match i,hi with
 | 0,_=> rfl
 | 1,_=> rfl
 | 2,_=> rfl
 | 3,_=> rfl
def hisF(b2 b4 b3 b5:Nat):Value:=.func (.func 165) #[] #[.pointer (some ⟨b2,0,none⟩),.pointer (some ⟨b4,0,none⟩),.pointer (some ⟨b3,0,none⟩),.pointer (some ⟨b5,0,none⟩)]
def hisB(bv:Value)(l b2 b3 b4 b5:Nat)(w:Nat->Nat):Bl:= [(b5,true,.cells ⟨[hisF b2 b4 b3 b5]⟩ 163 (0,0)),(b4,true,.cells ⟨cameL w⟩ 222 (0,0)),(b3,true,.cells ⟨[.func (.yield l) #[] #[]]⟩ 262 (0,0)),(b2,true,.cells ⟨bv.cells.toList⟩ 98 (0,0))]
structure CapB(b:Sb)(a:Sa)(H:View):Prop where
 book:SbAt H b a
 knd:Knd H
theorem CapB.le {b:Sb}{a:Sa}(H H':View)(h:H.le H')(c:CapB b a H):CapB b a H':=⟨c.book.le h,c.knd.le h⟩
section
variable(M:Md prog)(H:View)
theorem his_c(b:Sb)(a:Sa)(ho:b.Ok)(l b2 b3 b4 b5:Nat)(xs:List (Nat->Nat))(J:List (Nat->Nat)->View->Prop)(D:View->Prop)(hcap:∀rest H',J rest H'->CapB b a H')
  (hy:∀x rest (_:Unit) H' H'',x∈xs->J (x::rest) H'->SymSt H' [] H''->FnT M (.func (.yield l) #[] #[]) [cameV x] H'' fun v H3=> (v=.bool true/\∃H₂,SymSt H₂ [] H3/\J rest H₂)\/(v=.bool false/\D H3)):
  ∀ (d i:Nat) (w:Nat->Nat) (rest:List (Nat->Nat)) (H₁ Hc:View),i+d=b.ns->(∀k,k<i->w k<=b.np k)->J (b.his d w++rest) H₁->(∀x∈b.his d w,x∈xs)->SymSt H₁ (hisB (b.val a) l b2 b3 b4 b5 w) Hc-> 
   CallT M 165 #[.int .i64 (i:Nat),.pointer (some ⟨b2,0,none⟩),.pointer (some ⟨b4,0,none⟩),.pointer (some ⟨b3,0,none⟩),.pointer (some ⟨b5,0,none⟩)] Hc
    (fun v H3=> (v=.bool true/\∃H₂ w',SymSt H₂ (hisB (b.val a) l b2 b3 b4 b5 w') H3/\J rest H₂/\∀k,k<i\/b.ns<=k->w' k=w k)\/(v=.bool false/\∃H₂,H₂.le H3/\D H₂)):=by
 intro d;have hns:=ho.ns;induction d with
 | zero=>
  intro i w rest H₁ Hc hid hw hJ hin hsy;obtain⟨hbk,hkn⟩:=hcap _ _ hJ;have hi:i=b.ns:=by omega
  subst hi;have hag:=fun(H':View) (h':H₁.le H')=> agrees_c M H' b a (hbk.le h') (hkn.le h') ho w hw;cases hq:b.agrees w with
  | false=>
   have e0:b.his 0 w= []:=by unfold Sb.his;rw[hq];rfl
   rw[e0] at hJ;rw[hq] at hag;refine CallT.enter (vs:= [.int .i64 (b.ns:Nat),.pointer (some ⟨b2,0,none⟩),.pointer (some ⟨b4,0,none⟩),.pointer (some ⟨b3,0,none⟩),.pointer (some ⟨b5,0,none⟩)]) func165 rfl ntmps165 (Nat.le_of_ble_eq_true rfl) (hsy) fun St c cs hK=> ?_;unfold hisB;refine U19 ?_;refine .cl (fun H hs=> hag H hs.base) ?_;refine U8 ?_;refine .rt hK func165 results165 [_] ?_;exact fun H' hs=> .inl ⟨rfl,H₁,w,hs,hJ,fun _ _=> rfl⟩
  | true=>
   have e0:b.his 0 w= [w]:=by unfold Sb.his;rw[hq];rfl
   rw[e0] at hJ hin;rw[hq] at hag;refine CallT.enter (vs:= [.int .i64 (b.ns:Nat),.pointer (some ⟨b2,0,none⟩),.pointer (some ⟨b4,0,none⟩),.pointer (some ⟨b3,0,none⟩),.pointer (some ⟨b5,0,none⟩)]) func165 rfl ntmps165 (Nat.le_of_ble_eq_true rfl) (hsy) fun St c cs hK=> ?_;unfold hisB;refine U19 ?_;refine .cl (fun H hs=> hag H hs.base) ?_;refine U4 ?_;refine To.callF rfl rfl rfl rfl rfl rfl dE (hy w rest () H₁ H₁ (hin w (List.mem_singleton.2 rfl)) hJ (SymSt.nil H₁)) (fun v H₃ hv=> ?_);rcases hv with ⟨rfl,H4,h8,j3⟩|⟨rfl,hD⟩
   ·refine To.lower h8.base ?_;refine U3 ?_;refine .rt hK func165 results165 [_] ?_;exact fun H' hs=> .inl ⟨rfl,H4,w,hs,j3,fun _ _=> rfl⟩
   ·refine U3 ?_;refine .rt hK func165 results165 [_] ?_;exact fun H' hs=> .inr ⟨rfl,H₃,hs.base,hD⟩
 | succ d ihd=>
  intro i w rest H₁ Hc hid hw hJ hin hsy;have hi4:i<4:=by omega
  have hi:b.ns-(d+1)=i:=by omega
  have s0:=cameL_st w hi4 0;have t0:=cameL_ble w hi4;refine CallT.enter (vs:= [.int .i64 (i:Nat),.pointer (some ⟨b2,0,none⟩),.pointer (some ⟨b4,0,none⟩),.pointer (some ⟨b3,0,none⟩),.pointer (some ⟨b5,0,none⟩)]) func165 rfl ntmps165 (Nat.le_of_ble_eq_true rfl) (hsy) fun St c cs hK=> ?_;unfold hisB;refine U24 ?_;refine Tc.db (Tc.loopB (σ:= { x:Nat×(Nat->Nat)×View//x.1<=b.np i+1/\x.2.1 i=x.1/\(∀k,k<i\/b.ns<=k->x.2.1 k=w k)/\J ((upFrom x.1 (b.np i+1-x.1)).flatMap (fun n=> b.his d (upd w i n))++rest) x.2.2 })
   (fun x=> (x.1.2.2,[(0,.int .i64 (i:Nat)),(1,.pointer (some ⟨b2,0,none⟩)),(2,.pointer (some ⟨b4,0,none⟩)),(3,.pointer (some ⟨b3,0,none⟩)),(4,.pointer (some ⟨b5,0,none⟩))],[(b5,true,.cells ⟨[hisF b2 b4 b3 b5]⟩ 163 (0,0)),(b4,true,.cells ⟨cameL x.1.2.1⟩ 222 (0,0)),(b3,true,.cells ⟨[.func (.yield l) #[] #[]]⟩ 262 (0,0)),(b2,true,.cells ⟨(b.val a).cells.toList⟩ 98 (0,0))])) (fun x=> b.np i+1-x.1.1) ?_ ⟨(0,upd w i 0,H₁),Nat.zero_le _,by simp[upd],fun k hk=> by simp only;unfold upd;rw[if_neg oM],by unfold Sb.his at hJ;rw[hi] at hJ;exact hJ⟩)
  rintro⟨⟨n,w1,H₂⟩,g1,g2,g3,j1⟩ ih;simp only at g1 g2 g3 j1;show Tc M St _ _ H₂ _ [(0,.int .i64 (i:Nat)),(1,.pointer (some ⟨b2,0,none⟩)),(2,.pointer (some ⟨b4,0,none⟩)),(3,.pointer (some ⟨b3,0,none⟩)),(4,.pointer (some ⟨b5,0,none⟩))] [(b5,true,.cells ⟨[hisF b2 b4 b3 b5]⟩ 163 (0,0)),(b4,true,.cells ⟨cameL w1⟩ 222 (0,0)),(b3,true,.cells ⟨[.func (.yield l) #[] #[]]⟩ 262 (0,0)),(b2,true,.cells ⟨(b.val a).cells.toList⟩ 98 (0,0))] _ _;obtain⟨hbk,hkn⟩:=hcap _ _ j1;obtain⟨_,h0|⟨sk,so,sf,sg,st,sz,e1,e2,e3⟩⟩:=hbk.sess
  ·omega
  obtain⟨P,pc,f1,hpc,hP⟩:=e3 i oM;have f3:ldL false 1 sg (so+((i:Nat):Int).toNat*1+0)=some (.slice P (b.np i) pc):=ldL_cell f1 dE;have hnp:=ho.np i oM;have f2:ldL false 1 (cameL w1) (0+((i:Nat):Int).toNat*1)=some (.int .i64 (n:Nat)):=by
   rw[cameL_at w1 hi4,g2]
  have hbv:(b.val a).cells.toList= [.int .i64 b.room,.int .i64 b.gap,.slice a.A b.nm a.mc,.slice (some ⟨sk,so,none⟩) b.ns a.sc,.slice a.R b.nr a.rc]:=by
   rw[<-e1];rfl
  by_cases c0:n=b.np i+1
  ·clear ih;subst c0;have e4:b.np i+1-(b.np i+1)=0:=by omega
   rw[e4] at j1;rw[hbv];refine U2 ?_;refine Tc.dr [] [] mixed rfl ?_;refine V12 0 ?_;refine .dn ?_;refine U6 ?_;refine .rt hK func165 results165 [_] ?_;intro H' hs;refine .inl ⟨rfl,H₂,w1,?_,j1,g3⟩;unfold hisB;rw[hbv];exact hs.less sL
  ·have c1:n<=b.np i:=by omega
   have e4:b.np i+1-n=(b.np i+1-(n+1))+1:=by omega
   have hup:b.his d (upd w i n)=b.his d w1:=b.his_congr d _ _ oM fun k hk=> by
    unfold upd;by_cases e:k=i
    ·rw[if_pos e,e,g2]
    ·rw[if_neg e,g3 k oM]
   have hin2:∀y∈b.his d w1,y∈xs:=fun y hyy=> hin y (by
    unfold Sb.his;rw[hi];refine List.mem_flatMap.2 ⟨n,?_,by rw[hup];exact hyy⟩;have:∀(d n x:Nat),n<=x->x<n+d->x∈upFrom n d:=by
     intro d;induction d with
     | zero=> intro n x h1 h2;omega
     | succ d ih=>
      intro n x h1 h2;rw[upFrom_cons];by_cases e:x=n
      ·subst e;exact List.mem_cons_self ..
      ·exact List.mem_cons_of_mem _ (ih _ _ oM oM)
    exact this _ _ _ (Nat.zero_le _) oM)
   have hw1:∀k,k<i+1->w1 k<=b.np k:=fun k hk=> by
    by_cases e:k=i
    ·rw[e,g2];exact c1
    ·rw[g3 k oM];exact hw k oM
   rw[e4,upFrom_cons,List.flatMap_cons,List.append_assoc,hup] at j1;have hadd:intBin .add .i64 ((n:Nat):Int) 1=some (.int .i64 ((n+1:Nat):Int)):=by
    rw[add_in oM oM];rfl
   have hadd2:intBin .add .i64 ((i:Nat):Int) 1=some (.int .i64 ((i+1:Nat):Int)):=by
    rw[add_in oM oM];rfl
   rw[hbv];refine U2 ?_;refine Tc.dr [] [] mixed rfl ?_;refine V12 0 ?_;refine .dn ?_;refine U9 ?_;rw[<-hbv];refine To.lift (L₂:= []) (L₁:=hisB (b.val a) l b2 b3 b4 b5 w1) rfl (fun Hx hx=> ?_);refine To.callF rfl rfl rfl rfl rfl rfl dE (FnT.of (first:= []) (captured:= [_,_,_,_]) ca165 rfl (ihd (i+1) w1 _ H₂ Hx oM hw1 j1 hin2 hx)) (fun v H₃ hv=> ?_);rcases hv with ⟨rfl,H4,w2,h8,j3,g4⟩|⟨rfl,H4,hl4,hD⟩
   ·refine To.expand h8 ?_;unfold hisB;have g5:w2 i=n:=by rw[g4 i oM,g2]
    have f4:ldL false 1 (cameL w2) (0+((i:Nat):Int).toNat*1)=some (.int .i64 (n:Nat)):=by
     rw[cameL_at w2 hi4,g5]
    have t2:=cameL_ble w2 hi4;have s2:=cameL_st w2 hi4 (n+1);refine U13 ?_;exact Tc.db (ih ⟨(n+1,upd w2 i (n+1),H4),by simp only;omega,by simp[upd],fun k hk=> by simp only;unfold upd;rw[if_neg oM,g4 k oM,g3 k hk],j3⟩ (by simp only;omega))
   ·refine U7 ?_;refine .rt hK func165 results165 [_] ?_;exact fun H' hs=> .inr ⟨rfl,H4,View.le_trans hl4 hs.base,hD⟩
end
def hstF(b:Sb)(a:Sa):Value:=.func (.func 130) #[b.val a] #[]
def camesV(l:List (Nat->Nat)):List Value:=l.flatMap cameL
theorem camesV_app(l m:List (Nat->Nat)):camesV (l++m)=camesV l++camesV m:=by unfold camesV;rw[List.flatMap_append]
theorem camesV_one(x:Nat->Nat):camesV [x]=cameL x:=by unfold camesV;simp
theorem his_len {b:Sb}(ho:b.Ok):∀d w,d<=b.ns->(b.his d w).length<=6 ^ d
 | 0,w,_=> by unfold Sb.his;split <;> simp
 | d + 1,w,hd=> by
  unfold Sb.his;rw[List.length_flatMap];have h1:∀x∈(upFrom 0 (b.np (b.ns-(d+1))+1)).map (fun n=> (b.his d (upd w (b.ns-(d+1)) n)).length),x<=6 ^ d:=by
   intro x hx;obtain⟨n,_,rfl⟩:=List.mem_map.1 hx;exact his_len ho d _ oM
  have h2:∀(l:List Nat) (m:Nat),(∀x∈l,x<=m)->l.sum<=l.length*m:=by
   intro l m;induction l with
   | nil=> intro _;simp
   | cons y l ih=>
    intro h;have h3:=ih fun x hx=> h x (List.mem_cons_of_mem _ hx);have h4:=h y (List.mem_cons_self ..);rw[List.sum_cons,List.length_cons,Nat.add_mul];omega
  have h3:=h2 _ _ h1;have h4:∀(d n:Nat),(upFrom n d).length=d:=by
   intro d;induction d with
   | zero=> intro n;rfl
   | succ d ih=> intro n;rw[upFrom_cons,List.length_cons,ih]
  rw[List.length_map,h4] at h3;have h5:=ho.np (b.ns-(d+1)) oM;refine Nat.le_trans h3 ?_;rw[Nat.pow_succ,Nat.mul_comm];exact Nat.mul_le_mul_left _ oM
theorem histories_len {b:Sb}(ho:b.Ok):b.histories.length<=1296:=by
 have h1:=his_len ho b.ns zeroW (Nat.le_refl _);have h2:6 ^ b.ns<=6 ^ 4:=Nat.pow_le_pow_right dE ho.ns;exact Nat.le_trans h1 h2
section
variable(M:Md prog)(H:View)
theorem histories_it(b:Sb)(a:Sa)(ho:b.Ok):
  IterT M (hstF b a) b.histories (fun x (_:Unit)=> [cameV x]) (fun _ _=> []) (fun _ _=> []) (CapB b a) [] H:=fun l J D hcap h0 hy H₀ hs₀=> by
 refine FnT.of (first:= [_]) (captured:= []) ca130 rfl ?_;refine CallT.enter (vs:= [b.val a,.func (.yield l) #[] #[]]) func130 rfl ntmps130 (Nat.le_of_ble_eq_true rfl) (hs₀) fun St c cs hK=> ?_;refine U2 ?_;refine .bo fun b2=> ?_;refine .bo fun b3=> ?_;refine U3 ?_;refine .al fun b4=> ?_;refine U3 ?_;refine .al fun b5=> ?_;refine U8 ?_;refine To.lift (L₂:= []) (L₁:=hisB (b.val a) l b2 b3 b4 b5 zeroW) rfl (fun Hx hx=> ?_);refine To.callF rfl rfl rfl rfl rfl rfl dE (FnT.of (first:= []) (captured:= [_,_,_,_]) ca165 rfl (his_c M b a ho l b2 b3 b4 b5 b.histories J D hcap (fun x rest e H' H'' h1 h2 h3=> hy x rest e H' H'' h1 h2 h3) b.ns 0 zeroW [] H Hx (Nat.zero_add _) (fun k hk=> by omega) (by rw[List.append_nil];exact h0) (fun x hx=> hx) hx)) (fun v H₃ hv=> ?_);refine U ?_;refine .ov hK func130 results130 [] ?_;intro H' hs;rcases hv with ⟨_,H4,w',h8,j3,_⟩|⟨_,H4,hl4,hD⟩
 ·exact⟨H4,View.le_trans h8.base hs.base,.inl j3⟩
 ·exact⟨H4,View.le_trans hl4 hs.base,.inr hD⟩
theorem all_c(b:Sb)(a:Sa)(hb:SbAt H b a)(hk:Knd H)(ho:b.Ok):
  CallT M 75 #[b.val a] H (fun v H'=> H.le H'/\∃g:Gl 222 4,v=g.val/\g.l=camesV b.histories/\g.n=b.histories.length/\∀x∈g.bl,H' x.1=some x.2/\H x.1=none):=by
 have hit:=fun(H':View) (_:CapB b a H')=> histories_it M H' b a ho;have hlen:=histories_len ho;refine .en func75 ntmps75 fun St c cs hK=> ?_;refine U2 ?_;refine .bo fun b1=> ?_;refine U4 ?_;refine .al fun b3=> ?_;refine U8 ?_;refine Tc.db (R':= [(3,.pointer (some ⟨b3,0,none⟩)),(6,hstF b a)]) (L':= [(b3,true,.cells ⟨[(Gl.nil 222 4).val]⟩ 99 (0,0))]++(Gl.nil 222 4).bl) ?_;refine Tc.rangeL (A:= []) (ts:= [7]) (xs:=b.histories) (fun rest H₄ L₄=> ∃(g':Gl 222 4) (dn:List (Nat->Nat)),L₄= [(b3,true,.cells ⟨[g'.val]⟩ 99 (0,0))]++g'.bl/\g'.l=camesV dn/\g'.n=dn.length/\dn++rest=b.histories/\CapB b a H₄/\H.le H₄) (fun _ _ _=> False) rfl rfl rfl rfl hit CapB.le (fun _ _ _ ⟨_,_,_,_,_,_,h,_⟩=> h) rfl (fun _ _=> rfl)
   ⟨Gl.nil 222 4,[],rfl,rfl,rfl,rfl,⟨hb,hk⟩,View.le_refl _⟩ ?_ ?_ (fun _ _ _ _ h=> h.elim)
 ·rintro r x rest _ lp tmps asg bdy H₄ _ hx ⟨g',dn,rfl,q1,q2,q3,q4,q5⟩ Q St1 cc1 cs1 hK1 q q';have hdl2:dn.length<=1296:=by
   have:=congrArg List.length q3;rw[List.length_append] at this;omega
  refine U ?_;refine .al fun b4=> ?_;refine U2 ?_;refine Tc.beginRound (i:=1) rfl rfl rfl ?_;refine U4 ?_;refine .e (.bs (zz:=fun bs=> ?_));refine .e (Or.append (E:=en) 5 rfl rfl rfl rfl rfl rfl rfl rfl rfl rfl rfl rfl rfl rfl rfl (fun H hs=> SrcAt.of (hs.get (i:=0) rfl) (Nat.le_of_ble_eq_true rfl)) rfl oM rfl dE (fun g2 hn2 hl2=> ?_));refine U3 ?_;refine Tc.leaveRound hK1 (i:=2) rfl (.inl ⟨rfl,rfl⟩) (fun H' hs=> q H' H₄ _ (hs.less sL) ⟨g2,dn++[x],rfl,by rw[hl2,q1,camesV_app,camesV_one];rfl,by rw[hn2,q2,List.length_append];rfl,by rw[List.append_assoc];exact q3,q4,q5⟩)
 ·rintro r H₄ _ ⟨g',dn,rfl,q1,q2,q3,q4,q5⟩;rw[List.append_nil] at q3;subst q3;refine U6 ?_;refine Tc.retD (E:=en) (i:=0) hK func75 results75 (vs:= [_]) rfl ⟨rfl,trivial⟩ ?_;intro H' hs;refine⟨View.le_trans q5 hs.base,g',rfl,q1,q2,fun y hy=> ?_⟩;have hy':y∈((r,true,Obj.deferred none)::(b3,true,Obj.cells ⟨[g'.val]⟩ 99 (0,0))::g'.bl):=List.mem_cons_of_mem _ (List.mem_cons_of_mem _ hy);refine⟨hs.at_ y hy',?_⟩;have:=hs.out y hy';cases h0:H y.1 with
  | none=> rfl
  | some z=> rw[q5 _ _ h0] at this;cases this
end
def namF(S:List UInt8->Prop)(kv v:Value):Prop:=∃s,S s/\kv=strV s/\v=.bool true
theorem str_key(s:List UInt8):KeyFl en 1 9 (strV s):=⟨_,[strV s],rfl,rfl,⟨_,rfl⟩⟩
theorem strV_inj {s t:List UInt8}(h:strV s=strV t):s=t:=by
 unfold strV at h;simpa using h
theorem nam_flat {es:Array MapEntry}{cl:Nat}{S:List UInt8->Prop}(h:MapOk es cl (namF S)):∀e∈es.toList,KeyFl en 1 9 e.key:=fun e he=> by
 obtain⟨s,_,h2,_⟩:=(h.mem e.key e.val).2 ⟨e,he,rfl,rfl⟩;rw[h2];exact str_key s
theorem nam_not {es:Array MapEntry}{cl:Nat}{S:List UInt8->Prop}(h:MapOk es cl (namF S)){s:List UInt8}(hs:¬S s){r:Option (Nat×Value)}(hr:FindOk es.toList (strV s) r):foundV (.bool false) r false=.bool false:=by
 have h1:=h.find hr;cases r with
 | none=> rfl
 | some p=>
  obtain⟨i,v⟩:=p;obtain⟨t,h2,h3,_⟩:=h1;rw[strV_inj h3] at hs;exact(hs h2).elim
theorem nam_put(s:List UInt8)(S:List UInt8->Prop)(kv v:Value):namF (fun x=> x=s\/S x) kv v<->(kv=strV s/\v=.bool true)\/(kv≠strV s/\namF S kv v):=by
 constructor
 ·rintro⟨x,h1,h2,h3⟩;by_cases hx:x=s
  ·subst hx;exact .inl ⟨h2,h3⟩
  ·exact .inr ⟨fun h=> hx (strV_inj (h2.symm.trans h)),x,h1.resolve_left hx,h2,h3⟩
 ·rintro(⟨h1,h2⟩|⟨_,x,h1,h2,h3⟩)
  ·exact⟨s,.inl rfl,h1,h2⟩
  ·exact⟨x,.inr h1,h2,h3⟩
def metF(S:Int×Int->Prop)(kv v:Value):Prop:=∃p,S p/\kv=prtP p/\v=.bool true
theorem met_flat {es:Array MapEntry}{cl:Nat}{S:Int×Int->Prop}(h:MapOk es cl (metF S)):∀e∈es.toList,KeyFl en 2 56 e.key:=fun e he=> by
 obtain⟨s,_,h2,_⟩:=(h.mem e.key e.val).2 ⟨e,he,rfl,rfl⟩;rw[h2];exact prt_key s
theorem met_not {es:Array MapEntry}{cl:Nat}{S:Int×Int->Prop}(h:MapOk es cl (metF S)){s:Int×Int}(hs:¬S s){r:Option (Nat×Value)}(hr:FindOk es.toList (prtP s) r):foundV (.bool false) r false=.bool false:=by
 have h1:=h.find hr;cases r with
 | none=> rfl
 | some p=>
  obtain⟨i,v⟩:=p;obtain⟨t,h2,h3,_⟩:=h1;rw[prt_inj h3] at hs;exact(hs h2).elim
theorem met_put(s:Int×Int)(S:Int×Int->Prop)(kv v:Value):metF (fun x=> x=s\/S x) kv v<->(kv=prtP s/\v=.bool true)\/(kv≠prtP s/\metF S kv v):=by
 constructor
 ·rintro⟨x,h1,h2,h3⟩;by_cases hx:x=s
  ·subst hx;exact .inl ⟨h2,h3⟩
  ·exact .inr ⟨fun h=> hx (prt_inj (h2.symm.trans h)),x,h1.resolve_left hx,h2,h3⟩
 ·rintro(⟨h1,h2⟩|⟨_,x,h1,h2,h3⟩)
  ·exact⟨s,.inl rfl,h1,h2⟩
  ·exact⟨x,.inr h1,h2,h3⟩
section
variable(M:Md prog)(H:View)
theorem numbersS_c(b:Sb)(a:Sa)(ho:b.Ok):CallT M 126 #[b.val a] H (fun v H'=> H.le H'/\v=.int .i64 0):=by
 have h1:=ho.room;have h2:=ho.gap;refine .en func126 ntmps126 fun St c cs hK=> ?_;refine U2 ?_;refine .bo fun b1=> ?_;refine U8 ?_;refine .cl (fun H hs=> insideS_t M H (n:=b.room) (a:=1) (b:=20) oM) ?_;refine U5 ?_;refine .cl (fun H hs=> insideS_t M H (n:=b.gap) (a:=0) (b:=99) oM) ?_;refine U9 ?_;refine .rt hK func126 results126 [_] ?_;exact okB
theorem messagesS_c(b:Sb)(a:Sa)(hb:SbAt H b a)(ho:b.Ok):CallT M 127 #[b.val a] H (fun v H'=> H.le H'/\v=.int .i64 0):=by
 have h1:=ho.nm;refine .en func127 ntmps127 fun St c cs hK=> ?_;refine U2 ?_;refine .bo fun b1=> ?_;refine U15 ?_;refine .e (Or.makeMap rfl rfl dE (fun mm=> ?_));refine U12 ?_;refine Tc.db (Tc.loopInv (σ:= { s:Nat×Array MapEntry×Nat//s.1<=b.nm/\MapOk s.2.1 s.2.2 (namF fun t=> ∃j,j<s.1/\b.name j=t) })
  (fun s=> ([(3,.map (some mm)),(14,.slice a.A b.nm a.mc),(15,.int .i64 (b.nm:Nat)),(16,.int .i64 (s.1.1:Nat))],[(mm,true,.map s.1.2.1 s.1.2.2)])) (fun s=> b.nm-s.1.1) ?_ ⟨(0,#[],0),Nat.zero_le _,MapOk.nil.congr (by rintro x y;simp[namF])⟩)
 rintro⟨⟨i,es,cl⟩,g1,g2⟩ ih;simp only at g1 g2;show Tc M St _ _ H _ [(3,.map (some mm)),(14,.slice a.A b.nm a.mc),(15,.int .i64 (b.nm:Nat)),(16,.int .i64 (i:Nat))] [(mm,true,.map es cl)] _ _;by_cases c0:i=b.nm
 ·subst c0;refine U11 ?_;refine .rt hK func127 results127 [_] ?_;exact okB
 ·have c1:i<b.nm:=by omega
  obtain⟨_,h0|⟨k,o,f,gs,gt,gz,e1,e2,e3⟩⟩:=hb.msgs
  ·omega
  have f1:=e3 i c1;have hn:=ho.name i c1;have hg:=ho.gr i c1;have hd:=ho.due i c1;have hnot:¬∃j,j<i/\b.name j=b.name i:=fun⟨j,h1,h2⟩=> ho.apart i c1 j h1 h2;rw[e1] at ih ⊢;refine U13 ?_;refine .al fun b5=> ?_;refine U8 ?_;refine .cl (fun H hs=> isNameS_c M H (b.name i) hn) ?_;refine U9 ?_;refine .x (OpV.lookup (E:=en) 1 (es:=es) (v:=.bool false) rfl rfl rfl (fun H hs=> ⟨true,hs.get (i:=1) rfl⟩) rfl rfl rfl dE (str_key (b.name i)) (nam_flat g2) (fun r hr=> nam_not g2 hnot hr)) ?_;refine U8 ?_;refine .cl (fun H hs=> insideS_t M H (n:=b.gr i) (a:=1) (b:=4) oM) ?_;refine U7 ?_;refine .cl (fun H hs=> insideS_t M H (n:=b.due i) (a:=0) (b:=999) oM) ?_;refine U10 ?_;refine .e (Or.mapUpdate (E:=en) 1 1 rfl rfl rfl rfl rfl rfl rfl dE (str_key (b.name i)) (nam_flat g2) rfl (fun r hr=> ?_));obtain⟨es4,cl4,e4,q6⟩:=g2.put (.bool true) hr;rw[e4];refine U6 ?_;exact Tc.db (ih ⟨(i+1,es4,cl4),by simp only;omega,q6.congr fun x y=> by
   rw[<-nam_put];have:(fun t=> ∃j,j<i+1/\b.name j=t)=fun t=> t=b.name i\/∃j,j<i/\b.name j=t:=by
    funext t
    refine propext ⟨?_,?_⟩
    ·rintro⟨j,h1,h2⟩;by_cases e:j=i
     ·subst e;exact .inl h2.symm
     ·exact .inr ⟨j,oM,h2⟩
    ·rintro(h|⟨j,h1,h2⟩)
     ·exact⟨i,oM,h.symm⟩
     ·exact⟨j,oM,h2⟩
   rw[this]⟩ (by simp only;omega))
theorem Sb.Ok.grs {b:Sb}(h:b.Ok):∀i,i<b.nm-> -1000000<=b.gr i/\b.gr i<=1000000:=fun i hi=> by
 have:=h.gr i hi;omega
theorem sessionsS_c(b:Sb)(a:Sa)(hb:SbAt H b a)(ho:b.Ok):CallT M 128 #[b.val a] H (fun v H'=> H.le H'/\v=.int .i64 0):=by
 have h1:=ho.ns;have hnm:=ho.nm;refine .en func128 ntmps128 fun St c cs hK=> ?_;refine U2 ?_;refine .bo fun b1=> ?_;refine U23 ?_;refine Tc.db (Tc.loopInv (σ:= { s:Nat//s<=b.ns })
  (fun s=> ([(1,.pointer (some ⟨b1,0,none⟩)),(15,.slice a.S b.ns a.sc),(16,.int .i64 (b.ns:Nat)),(17,.int .i64 (s.1:Nat))],[(b1,true,.cells ⟨(b.val a).cells.toList⟩ 98 (0,0))])) (fun s=> b.ns-s.1) ?_ ⟨0,Nat.zero_le _⟩)
 rintro⟨i,g1⟩ ih;show Tc M St _ _ H _ [(1,.pointer (some ⟨b1,0,none⟩)),(15,.slice a.S b.ns a.sc),(16,.int .i64 (b.ns:Nat)),(17,.int .i64 (i:Nat))] [(b1,true,.cells ⟨(b.val a).cells.toList⟩ 98 (0,0))] _ _;by_cases c0:i=b.ns
 ·subst c0;refine U11 ?_;refine .rt hK func128 results128 [_] ?_;exact okB
 ·have c1 :i<b.ns:=by omega
  obtain⟨_,h0|⟨k,o,f,gs,gt,gz,e1,e2,e3⟩⟩:=hb.sess
  ·omega
  obtain⟨P,pc,f1,hpc,hP⟩:=e3 i c1;have hnp:=ho.np i c1;rw[e1] at ih ⊢;refine U13 ?_;refine .al fun b4=> ?_;refine U14 ?_;refine .e (Or.makeMap rfl rfl dE (fun mm=> ?_));refine U10 ?_;refine Tc.db (Tc.loopInv (σ:= { s:Nat×Array MapEntry×Nat//s.1<=b.np i/\MapOk s.2.1 s.2.2 (metF fun t=> ∃j,j<s.1/\(b.pm i j,b.pg i j)=t) })
   (fun s=> ([(1,.pointer (some ⟨b1,0,none⟩)),(15,.slice (some ⟨k,o,none⟩) b.ns a.sc),(16,.int .i64 (b.ns:Nat)),(17,.int .i64 (i:Nat)),(5,.map (some mm)),(27,.slice P (b.np i) pc),(28,.int .i64 (b.np i:Nat)),(29,.int .i64 (s.1.1:Nat))],[(mm,true,.map s.1.2.1 s.1.2.2),(b1,true,.cells ⟨(b.val a).cells.toList⟩ 98 (0,0))])) (fun s=> b.np i-s.1.1) ?_ ⟨(0,#[],0),Nat.zero_le _,MapOk.nil.congr (by rintro x y;simp[metF])⟩)
  rintro⟨⟨j,es,cl⟩,q1,q2⟩ ih₂;simp only at q1 q2;show Tc M St _ _ H _ [(1,.pointer (some ⟨b1,0,none⟩)),(15,.slice (some ⟨k,o,none⟩) b.ns a.sc),(16,.int .i64 (b.ns:Nat)),(17,.int .i64 (i:Nat)),(5,.map (some mm)),(27,.slice P (b.np i) pc),(28,.int .i64 (b.np i:Nat)),(29,.int .i64 (j:Nat))] [(mm,true,.map es cl),(b1,true,.cells ⟨(b.val a).cells.toList⟩ 98 (0,0))] _ _;by_cases d0:j=b.np i
  ·subst d0;refine U12 ?_;exact Tc.db (ih ⟨i+1,oM⟩ (by simp only;omega))
  ·have d1:j<b.np i:=by omega
   rcases hP with h0|⟨pb,po,pf,pgs,pgt,pgz,rfl,p2,p3⟩
   ·omega
   have f3:=p3 j d1;have hip:=ho.parts i c1 j d1;have hnot:¬∃k,k<j/\(b.pm i k,b.pg i k)=(b.pm i j,b.pg i j):=fun⟨k,h1,h2⟩=> ho.once i c1 j d1 k h1 (by
    simp only[Prod.mk.injEq] at h2;exact h2)
   have hpt:=fun(H':View) (h':H.le H')=> isV (isPart_c M H' b a (hb.le h') oM ho.grs (b.pm i j) (b.pg i j)) (w':=.bool true) (by rw[hip]);refine U13 ?_;refine .al fun b7=> ?_;refine U8 ?_;refine .cl (fun H hs=> hpt H hs.base) ?_;refine U8 ?_;refine .x (OpV.lookup (E:=en) 2 (es:=es) (v:=.bool false) rfl rfl rfl (fun H hs=> ⟨true,hs.get (i:=1) rfl⟩) rfl rfl rfl dE (prt_key (b.pm i j,b.pg i j)) (met_flat q2) (fun r hr=> met_not q2 hnot hr)) ?_;refine U8 ?_;refine .e (Or.mapUpdate (E:=en) 1 2 rfl rfl rfl rfl rfl rfl rfl dE (prt_key (b.pm i j,b.pg i j)) (met_flat q2) rfl (fun r hr=> ?_));obtain⟨es4,cl4,e4,q6⟩:=q2.put (.bool true) hr;rw[e4];refine U6 ?_;exact Tc.db (ih₂ ⟨(j+1,es4,cl4),by simp only;omega,q6.congr fun x y=> by
    have:(fun t=> ∃k,k<j+1/\(b.pm i k,b.pg i k)=t)=fun t=> t=(b.pm i j,b.pg i j)\/∃k,k<j/\(b.pm i k,b.pg i k)=t:=by
     funext t
     refine propext ⟨?_,?_⟩
     ·rintro⟨k,h1,h2⟩;by_cases e:k=j
      ·subst e;exact .inl h2.symm
      ·exact .inr ⟨k,oM,h2⟩
     ·rintro(h|⟨k,h1,h2⟩)
      ·exact⟨j,oM,h.symm⟩
      ·exact⟨k,oM,h2⟩
    show metF (fun t=> ∃k,k<j+1/\(b.pm i k,b.pg i k)=t) x y<->_;rw[this];exact met_put (b.pm i j,b.pg i j) _ x y⟩ (by simp only;omega))
end
def kindB(k:Nat):Bool:=decide (k=4)
def kindM(k:Nat):Bool:=decide (2<=k)
def mostI(k:Nat):Nat:= [236,236,236,236,241,243].getD k 0
def mostF(k:Nat):Value:=.func (.func (mostI k)) #[] #[]
def kindW(k:Nat):Value:=strV ([[97,108,108],[98,114,111,107,101],[108,101,97,115,116],[109,111,115,116],[99,111,112,105,101,115],[104,97,118,101]].getD k [])
theorem kinds_row(k:Nat)(h:k<=5):ldL true 5 kindsL (0+(k:Int).toNat*5)=some (.agg ⟨[kindW k,.bool (kindB k),.bool (kindM k),mostF k,rightF k]⟩):=by
 match k,h with
 | 0,_=> rfl
 | 1,_=> rfl
 | 2,_=> rfl
 | 3,_=> rfl
 | 4,_=> rfl
 | 5,_=> rfl
def Sb.most(b:Sb)(k:Nat)(x:Int):Int:=if k<=3 then(b.np x.toNat:Int) else if k=4 then(b.ns:Int) else b.gr x.toNat
section
variable(M:Md prog)(H:View)
theorem most_c(b:Sb)(a:Sa)(hb:SbAt H b a)(ho:b.Ok)(k:Nat)(x y m:Int)(hr:b.recOk k x y m):
  FnT M (mostF k) [b.val a,recV k x y m] H (fun v H'=> H.le H'/\v=.tuple ⟨[.int .i64 (b.most k x),.bool true]⟩):=by
 obtain⟨_,h5,_,_,_,r3,r4,r5⟩:=hr;have hns:=ho.ns;have hnm:=ho.nm;by_cases k3:k<=3
 ·have e0:mostF k=.func (.func 236) #[] #[]:=by
   match k,k3 with
   | 0,_=> rfl
   | 1,_=> rfl
   | 2,_=> rfl
   | 3,_=> rfl
  rw[e0];obtain⟨x0,x1,_⟩:=r3 oM;obtain⟨i,rfl⟩:∃i:Nat,x=i:=⟨x.toNat,oM⟩
  have c1:i<b.ns:=by omega
  obtain⟨_,h0|⟨sk,so,sf,sg,st,sz,e1,e2,e3⟩⟩:=hb.sess
  ·omega
  obtain⟨P,pc,f1,hpc,hP⟩:=e3 i c1;have f3:ldL false 1 sg (so+((i:Nat):Int).toNat*1+0)=some (.slice P (b.np i) pc):=ldL_cell f1 dE;have hv:b.most k i=(b.np i:Int):=if_pos k3;rw[hv];refine FnT.f ca236 rfl ?_;obtain⟨aA,mc,aS,sc,aR,rc⟩:=a;simp only at e1;subst e1;refine .en func236 ntmps236 fun St c cs hK=> ?_;refine U2 ?_;refine .bo fun b2=> ?_;refine .bo fun b3=> ?_;refine U13 ?_;refine .cl (fun H hs=> insideS_t M H (n:=((i:Nat):Int)) (a:=0) (b:=((b.ns:Nat):Int)-1) oM) ?_;refine U18 ?_;refine .rt hK func236 results236 [_,_] ?_;exact okB
 ·by_cases k4:k=4
  ·subst k4;obtain⟨p1,_⟩:=r4 rfl;have hpt:=fun(H':View) (h':H.le H')=> isV (isPart_c M H' b a (hb.le h') oM ho.grs x y) (w':=.bool true) (by rw[p1]);have hv:b.most 4 x=(b.ns:Int):=rfl;rw[hv];refine FnT.f ca241 rfl ?_;refine .en func241 ntmps241 fun St c cs hK=> ?_;refine U2 ?_;refine .bo fun b2=> ?_;refine .bo fun b3=> ?_;refine U4 ?_;refine Tc.dr [] [] mixed rfl ?_;refine V10 0 ?_;refine .z 10 rfl (OpV.tk fun H hs=> hpt H hs.base) ?_;refine V2 11 ?_;refine .dn ?_;refine .rt hK func241 results241 [_,_] ?_;exact okB
  ·have k5:k=5:=by omega
   subst k5;obtain⟨x0,x1,_⟩:=r5 rfl;obtain⟨i,rfl⟩:∃i:Nat,x=i:=⟨x.toNat,oM⟩
   have c1:i<b.nm:=by omega
   obtain⟨_,h0|⟨sk,so,sf,sg,st,sz,e1,e2,e3⟩⟩:=hb.msgs
   ·omega
   have f1:=e3 i c1;have f3:ldL false 1 sg (so+((i:Nat):Int).toNat*3+1)=some (.int .i64 (b.gr i)):=ldL_cell f1 dE;have hv:b.most 5 i=b.gr i:=rfl;rw[hv];refine FnT.f ca243 rfl ?_;obtain⟨aA,mc,aS,sc,aR,rc⟩:=a;simp only at e1;subst e1;refine .en func243 ntmps243 fun St c cs hK=> ?_;refine U2 ?_;refine .bo fun b2=> ?_;refine .bo fun b3=> ?_;refine U13 ?_;refine .cl (fun H hs=> insideS_t M H (n:=((i:Nat):Int)) (a:=0) (b:=((b.nm:Nat):Int)-1) oM) ?_;refine U17 ?_;refine .rt hK func243 results243 [_,_] ?_;exact okB
theorem record_c(b:Sb)(a:Sa)(hb:SbAt H b a)(hk:Knd H)(ho:b.Ok)(kd x y m:Int)(hr:b.recOk kd x y m):CallT M 164 #[b.val a,recV kd x y m] H (fun v H'=> H.le H'/\v=.int .i64 0):=by
 obtain⟨k,rfl⟩:∃k:Nat,kd=k:=⟨kd.toNat,by have:=hr.1;omega⟩
 have hmo:=fun(H':View) (h':H.le H')=> most_c M H' b a (hb.le h') ho k x y m hr;have hm:0<=m/\m<=b.most k x:=by
  obtain⟨_,_,_,_,h0,r3,r4,r5⟩:=hr;refine⟨h0,?_⟩;unfold Sb.most;split
  ·exact(r3 oM).2.2
  ·split
   ·exact(r4 oM).2
   ·exact(r5 oM).2.2
 obtain⟨k0,k5,hy,hz,_⟩:=hr;have f1:=kinds_row k oM;obtain⟨fk,gt,gz,e3⟩:=hk;cases hB:kindB k with
 | true=>
  have hB2:k=4:=by simpa [kindB] using hB
  have hM:kindM k=true:=by rw[hB2];rfl
  rw[hB,hM] at f1;refine .en func164 ntmps164 fun St c cs hK=> ?_;refine U2 ?_;refine .bo fun b2=> ?_;refine .bo fun b3=> ?_;refine U7 ?_;refine .cl (fun H hs=> insideS_t M H (n:=k) (a:=0) (b:=5) oM) ?_;refine U10 ?_;refine .al fun b5=> ?_;refine U32 ?_;refine .c rfl rfl rfl rfl (fun H hs=> hmo H hs.base) ?_;refine U20 ?_;refine .cl (fun H hs=> insideS_t M H hm) ?_;refine U10 ?_;refine .rt hK func164 results164 [_] ?_;exact okB
 | false=>
  have hB2:k≠4:=by simpa [kindB] using hB
  have hy0:=hy oM;subst hy0;cases hM:kindM k with
  | true=>
   rw[hB,hM] at f1;refine .en func164 ntmps164 fun St c cs hK=> ?_;refine U2 ?_;refine .bo fun b2=> ?_;refine .bo fun b3=> ?_;refine U7 ?_;refine .cl (fun H hs=> insideS_t M H (n:=k) (a:=0) (b:=5) oM) ?_;refine U10 ?_;refine .al fun b5=> ?_;refine U32 ?_;refine .c rfl rfl rfl rfl (fun H hs=> hmo H hs.base) ?_;refine U20 ?_;refine .cl (fun H hs=> insideS_t M H hm) ?_;refine U10 ?_;refine .rt hK func164 results164 [_] ?_;exact okB
  | false=>
   have hM2:¬2<=k:=by simpa [kindM] using hM
   have hm0:=hz oM;subst hm0;rw[hB,hM] at f1;refine .en func164 ntmps164 fun St c cs hK=> ?_;refine U2 ?_;refine .bo fun b2=> ?_;refine .bo fun b3=> ?_;refine U7 ?_;refine .cl (fun H hs=> insideS_t M H (n:=k) (a:=0) (b:=5) oM) ?_;refine U10 ?_;refine .al fun b5=> ?_;refine U32 ?_;refine .c rfl rfl rfl rfl (fun H hs=> hmo H hs.base) ?_;refine U20 ?_;refine .cl (fun H hs=> insideS_t M H hm) ?_;refine U10 ?_;refine .rt hK func164 results164 [_] ?_;exact okB
theorem recordsS_c(b:Sb)(a:Sa)(hb:SbAt H b a)(hk:Knd H)(ho:b.Ok):CallT M 129 #[b.val a] H (fun v H'=> H.le H'/\v=.int .i64 0):=by
 have h1:=ho.nr;refine .en func129 ntmps129 fun St c cs hK=> ?_;refine U2 ?_;refine .bo fun b1=> ?_;refine U23 ?_;refine Tc.db (Tc.loopInv (σ:= { s:Nat//s<=b.nr })
  (fun s=> ([(1,.pointer (some ⟨b1,0,none⟩)),(13,.slice a.R b.nr a.rc),(14,.int .i64 (b.nr:Nat)),(15,.int .i64 (s.1:Nat))],[(b1,true,.cells ⟨(b.val a).cells.toList⟩ 98 (0,0))])) (fun s=> b.nr-s.1) ?_ ⟨0,Nat.zero_le _⟩)
 rintro⟨i,g1⟩ ih;show Tc M St _ _ H _ [(1,.pointer (some ⟨b1,0,none⟩)),(13,.slice a.R b.nr a.rc),(14,.int .i64 (b.nr:Nat)),(15,.int .i64 (i:Nat))] [(b1,true,.cells ⟨(b.val a).cells.toList⟩ 98 (0,0))] _ _;by_cases c0:i=b.nr
 ·subst c0;refine U11 ?_;refine .rt hK func129 results129 [_] ?_;exact okB
 ·have c1:i<b.nr:=by omega
  obtain⟨_,h0|⟨k,o,f,gs,gt,gz,e1,e2,e3⟩⟩:=hb.recs
  ·omega
  have f1:=e3 i c1;have hrc:=fun(H':View) (h':H.le H')=> record_c M H' b a (hb.le h') (hk.le h') ho (b.kd i) (b.ra i) (b.rb i) (b.rm i) (ho.recs i c1);rw[e1] at ih ⊢;refine U13 ?_;refine .al fun b4=> ?_;refine U6 ?_;refine .cl (fun H hs=> hrc H hs.base) ?_;refine U14 ?_;exact Tc.db (ih ⟨i+1,oM⟩ (by simp only;omega))
def chkS(bv:Value)(j:Nat):Value:=.func (.func (126+j)) #[bv] #[]
theorem chkS_c(b:Sb)(a:Sa)(hb:SbAt H b a)(hk:Knd H)(ho:b.Ok)(j:Nat)(hj:j<4):FnT M (chkS (b.val a) j) [] H (fun v H'=> H.le H'/\v=.int .i64 0):=by
 match j,hj with
 | 0,_=> exact FnT.of (first:= [_]) (captured:= []) ca126 rfl (numbersS_c M H b a ho)
 | 1,_=> exact FnT.of (first:= [_]) (captured:= []) ca127 rfl (messagesS_c M H b a hb ho)
 | 2,_=> exact FnT.of (first:= [_]) (captured:= []) ca128 rfl (sessionsS_c M H b a hb ho)
 | 3,_=> exact FnT.of (first:= [_]) (captured:= []) ca129 rfl (recordsS_c M H b a hb hk ho)
def chksL(bv:Value):List Value:= [chkS bv 0,chkS bv 1,chkS bv 2,chkS bv 3]
theorem chks_at(bv:Value){j:Nat}(hj:j<4):ldL false 1 (chksL bv) (0+((j:Nat):Int).toNat*1)=some (chkS bv j):=by
 match j,hj with
 | 0,_=> rfl
 | 1,_=> rfl
 | 2,_=> rfl
 | 3,_=> rfl
theorem CheckBookS_c(b:Sb)(a:Sa)(hb:SbAt H b a)(hk:Knd H)(ho:b.Ok):CallT M 74 #[b.val a] H (fun v H'=> H.le H'/\v=.int .i64 0):=by
 refine .en func74 ntmps74 fun St c cs hK=> ?_;refine U2 ?_;refine .bo fun b1=> ?_;refine U6 ?_;refine .al fun b3=> ?_;refine U13 ?_;refine .e (.bs (zz:=fun bs=> ?_));refine U4 ?_;refine Tc.db (Tc.loopInv (σ:= { s:Nat//s<=4 })
  (fun s=> ([(17,.slice (some ⟨bs,0,none⟩) 4 4),(18,.int .i64 4),(19,.int .i64 (s.1:Nat))],[(bs,true,.cells ⟨chksL (b.val a)⟩ 218 (0,0))])) (fun s=> 4-s.1) ?_ ⟨0,by decide⟩)
 rintro⟨j,g1⟩ ih;show Tc M St _ _ H _ [(17,.slice (some ⟨bs,0,none⟩) 4 4),(18,.int .i64 4),(19,.int .i64 (j:Nat))] [(bs,true,.cells ⟨chksL (b.val a)⟩ 218 (0,0))] _ _;by_cases c0:j=4
 ·subst c0;refine U11 ?_;refine .rt hK func74 results74 [_] ?_;exact okB
 ·have c1:j<4:=by omega
  have f1:=chks_at (b.val a) c1;have hck:=fun(H':View) (h':H.le H')=> chkS_c M H' b a (hb.le h') (hk.le h') ho j c1;refine U18 ?_;refine .c rfl rfl rfl rfl (fun H hs=> hck H hs.base) ?_;refine U14 ?_;exact Tc.db (ih ⟨j+1,oM⟩ (by simp only;omega))
end
def HisAt(H:View)(A:Option Addr)(l:List (Nat->Nat)):Prop:=
 l= []\/∃b o f gs gt gz,A=some ⟨b,o,none⟩/\H b=some (f,.cells ⟨gs⟩ gt gz)/\∀(j:Nat) x,l[j]? =some x->ldL true 4 gs (o+(j:Int).toNat*4)=some (cameV x)
theorem HisAt.le {H H':View}{A:Option Addr}{l:List (Nat->Nat)}(h:HisAt H A l)(k:H.le H'):HisAt H' A l:=
 h.imp id fun⟨b,o,f,gs,gt,gz,h1,h2,h3⟩=> ⟨b,o,f,gs,gt,gz,h1,k _ _ h2,h3⟩
theorem cames_len:∀l,(camesV l).length=l.length*4
 | []=> rfl
 | x::t=> by
  have:=cames_len t;show(cameL x++camesV t).length=_;rw[List.length_append,this,List.length_cons];show 4+_=_;omega
theorem cames_drop:∀(l:List (Nat->Nat)) (j:Nat) x (rest:List Value),l[j]? =some x->((camesV l++rest).drop (j*4)).take 4=cameL x
 | [],_,_,_,h=> by cases h
 | y::t,0,x,rest,h=> by
  cases h
  show((cameL y++camesV t)++rest).take 4=_;rw[List.append_assoc];rfl
 | y::t,j+1,x,rest,h=> by
  have:=cames_drop t j x rest h;show(((cameL y++camesV t)++rest).drop ((j+1)*4)).take 4=_;rw[List.append_assoc,show(j+1)*4=4+j*4 by omega,<-List.drop_drop];exact this
theorem his_of(g:Gl 222 4){H:View}(h:∀x∈g.bl,H x.1=some x.2){l:List (Nat->Nat)}(hl:g.l=camesV l):HisAt H (g.blk.map fun b=> ⟨b,0,none⟩) l:=by
 have hgl:=g.hl;rw[hl,cames_len] at hgl;cases hbb:g.blk with
 | none=>
  have:=g.h0 hbb;have:=g.hc;exact .inl (List.eq_nil_of_length_eq_zero oM)
 | some b=>
  have hbl:g.bl= [(b,true,.cells ⟨g.l++g.junk⟩ 222 (0,0))]:=by unfold Gl.bl;rw[hbb]
  refine .inr ⟨b,0,true,_,222,(0,0),rfl,h (b,true,.cells ⟨g.l++g.junk⟩ 222 (0,0)) (by rw[hbl];simp),fun j x hx=> ?_⟩;have hjl:=(List.getElem?_eq_some_iff.1 hx).1;rw[Nat.zero_add,Int.toNat_natCast];unfold ldL;have hlen:j*4+4<=(g.l++g.junk).length:=by rw[List.length_append,hl,cames_len];omega
  rw[show Nat.ble (j*4+4) (g.l++g.junk).length=true from Nat.ble_eq_true_of_le hlen,hl];simp only[cames_drop l j x g.junk hx];rfl
def oftenL(b:Sb)(p:Int×Int)(l:List (Nat->Nat)):List Value:=l.map fun x=> .int .i64 (cntS b x p b.ns:Nat)
def cntGe(x:Nat->Int)(least:Int):Nat->Nat
 | 0=> 0
 | j+1=> cntGe x least j+if least<=x j then 1 else 0
theorem cntGe_le(x:Nat->Int)(least:Int):∀n,cntGe x least n<=n
 | 0=> Nat.le_refl _
 | n+1=> by
  have:=cntGe_le x least n;unfold cntGe;split <;> omega
def timedF(b1:Nat):Value:=.func (.func 79) #[] #[.pointer (some ⟨b1,0,none⟩)]
section
variable(M:Md prog)(H:View)
theorem open_c(b:Sb)(a:Sa)(hb:SbAt H b a)(hk:Knd H)(ho:b.Ok)(hne:b.histories≠ [])(fv:Value)(hf:∀H',H.le H'->FnT M fv [b.val a] H' fun v H''=> H'.le H''/\v=.int .i64 0):
  CallT M 38 #[b.val a,fv] H (fun v H'=> H.le H'/\∃g:Gl 222 4,v=.tuple ⟨[b.val a,g.val,.int .i64 0]⟩/\g.l=camesV b.histories/\g.n=b.histories.length/\∀x∈g.bl,H' x.1=some x.2/\H x.1=none):=by
 have hcb:=fun(H':View) (h':H.le H')=> CheckBookS_c M H' b a (hb.le h') (hk.le h') ho;have hlen:=histories_len ho;have hpos:0<b.histories.length:=List.length_pos_iff.2 hne;refine .en func38 ntmps38 fun St c cs hK=> ?_;refine U2 ?_;refine .bo fun b2=> ?_;refine .al fun b4=> ?_;refine U7 ?_;refine .cl (fun H hs=> hcb H hs.base) ?_;refine U13 ?_;refine .al fun b8=> ?_;refine U7 ?_;refine .c rfl rfl rfl rfl (fun H hs=> hf H hs.base) ?_;refine U12 ?_;refine To.callF rfl rfl rfl rfl rfl rfl dE (FnT.h (all_c M H b a hb hk ho)) (fun v H₁ hv=> ?_);obtain⟨hle,g,rfl,g1,g2,g3⟩:=hv;have g4:1<=g.n:=by omega
 have g5:g.n<=1296:=by omega
 refine U19 ?_;refine .rt hK func38 results38 [_,_,_] ?_;exact fun H' hs=> ⟨View.le_trans hle hs.base,g,rfl,g1,g2,fun x hx=> ⟨hs.base _ _ (g3 x hx).1,(g3 x hx).2⟩⟩
theorem nothing_c(b:Sb)(a:Sa):CallT M 39 #[b.val a] H (fun v H'=> H.le H'/\v=.int .i64 0):=by
 refine .en func39 ntmps39 fun St c cs hK=> ?_;refine U2 ?_;refine .bo fun b1=> ?_;refine U6 ?_;refine .rt hK func39 results39 [_] ?_;exact okB
theorem timed1_c(b:Sb)(a:Sa)(n:Int)(hn:0<=n/\n<=999)(b1:Nat)(h1:∃f,H b1=some (f,.cells ⟨[.int .i64 n]⟩ 3 (0,0))):FnT M (timedF b1) [b.val a] H (fun v H'=> H.le H'/\v=.int .i64 0):=by
 obtain⟨f,h1⟩:=h1;refine FnT.of (first:= []) (captured:= [_]) ca79 rfl ?_;refine .en func79 ntmps79 fun St c cs hK=> ?_;refine U2 ?_;refine .bo fun b2=> ?_;refine U6 ?_;refine .cl (fun H hs=> insideS_t M H hn) ?_;refine U8 ?_;refine .rt hK func79 results79 [_] ?_;exact okB
theorem count_c(F:Option Addr)(n c':Nat)(x:Nat->Int)(hF:FreeAt H F n x)(hn:n<=1000000)(least:Int):CallT M 77 #[.slice F n c',.int .i64 least] H (fun v H'=> H.le H'/\v=.int .i64 (cntGe x least n:Nat)):=by
 refine .en func77 ntmps77 fun St c cs hK=> ?_;refine U16 ?_;refine Tc.db (Tc.loopInv (σ:= { j:Nat//j<=n }) (fun j=> ([(1,.int .i64 least),(8,.slice F n c'),(9,.int .i64 (n:Nat)),(10,.int .i64 (j.1:Nat)),(5,.int .i64 (cntGe x least j.1:Nat))],[])) (fun j=> n-j.1) ?_ ⟨0,Nat.zero_le _⟩);rintro⟨j,hj⟩ ih;show Tc M St _ _ _ _ [(1,.int .i64 least),(8,.slice F n c'),(9,.int .i64 (n:Nat)),(10,.int .i64 (j:Nat)),(5,.int .i64 (cntGe x least j:Nat))] [] _ _;by_cases c1:j=n
 ·subst c1;refine U12 ?_;refine .rt hK func77 results77 [_] ?_;exact okB
 ·have c2:j<n:=by omega
  rcases hF with h0|⟨fb,fo,ff,fgs,fgt,fgz,rfl,hfb,hfl⟩
  ·omega
  have f1:=hfl j c2;have hle:=cntGe_le x least j;obtain⟨w,hw⟩:∃w,cntGe x least j=w:=⟨_,rfl⟩
  rw[hw] at hle ⊢;by_cases c3:least<=x j
  ·have e1:cntGe x least (j+1)=w+1:=by unfold cntGe;rw[if_pos c3,hw]
   have hadd:intBin .add .i64 ((w:Nat):Int) 1=some (.int .i64 ((w+1:Nat):Int)):=by
    rw[add_in oM oM];rfl
   refine U32 ?_;rw[<-e1];exact Tc.db (ih ⟨j+1,oM⟩ (by simp only;omega))
  ·have e1:cntGe x least (j+1)=w:=by unfold cntGe;rw[if_neg c3,hw];rfl
   refine U28 ?_;rw[<-e1];exact Tc.db (ih ⟨j+1,oM⟩ (by simp only;omega))
end
end Go.Proofs.YtcagolloalgfiaaGreatDoor
