/-
 Texts of the proofs over baudot/dial.
-/
import Derived.Test.YtcagolloalgfiaaGreatDoorW06
namespace Go.Proofs.YtcagolloalgfiaaGreatDoor
open Go.RL Go.Proofs.Tryz
set_option maxRecDepth 10000
set_option maxHeartbeats 16000000
section
variable(M:Md prog)(H:View)
theorem numbered_c(hS:Sig H)(hC:Sg.Glob H)(q:Sg.Lk)(hq:q.ok=true)(s:List UInt8)(hs1:s.all dig=true)(hs2:s.length<=12)(hs3:s≠ [])(X:Option Addr)(l:List Int)(n xc:Nat)(hn:n=l.length)(hc:n<=xc)(hX:Sg.Picks H X l):
  CallT M 19 #[q.val,strV s,.slice X n xc] H (fun v H'=> H.le H'/\∃(g:Gl 3 1) (su rd:Bool),v=.tuple ⟨[g.val,.bool su,.bool rd,.bool true]⟩/\(su=true->rd=true->g.n=s.length/\g.l=clL (fun j=> (pnAt s j:Nat)) s.length/\∀x∈g.bl,H' x.1=some x.2/\H x.1=none)):=by
 have hne:intBin .neq .i64 ((s.length:Nat):Int) ((s.length:Nat):Int)=some (.bool false):=neq_f rfl;refine .en func19 ntmps19 fun St c cs hK=> ?_;refine U2 ?_;refine .bo fun b3=> ?_;refine U8 ?_;refine To.callF rfl rfl rfl rfl rfl rfl dE (FnT.h (Encode_x M H hS s hs1 hs2 hs3)) (fun v H₁ hv=> ?_);obtain⟨hle1,⟨cb,cc,cj⟩,rfl,_,hx⟩:=hv;have hcb₁:H₁ cb=some (true,.cells ⟨codesL s++cj⟩ 3 (0,0)):=(hx (cb,true,.cells ⟨codesL s++cj⟩ 3 (0,0)) (by simp[exB])).1;clear hx;refine U9 ?_;refine To.callF rfl rfl rfl rfl rfl rfl dE (FnT.h (Sg.Sure_c M H₁ q (Sg.glob_le hC hle1) hq)) (fun v H₂ hv=> ?_);obtain⟨hle2',gS,rfl,hgS,hgb⟩:=hv;obtain⟨hSn,hSN⟩:=Sg.Nums.of (H:=H₂) (hgS.trans (keepI_eq _ _)) (fun y hy=> (hgb y hy).1);have hcb:=hle2' _ _ hcb₁;have hle2:=View.le_trans hle1 hle2';clear hcb₁;have hS32:gS.n<=32:=by rw[hSn];exact Sg.keepI_len _ _
 refine U35 ?_;refine Tc.db (Tc.loopInv (σ:= { x:Nat×Bool×Gl 3 1//x.1<=s.length/\x.2.2.n=x.1/\(x.2.1=true->x.2.2.l=clL (fun j=> (pnAt s j:Nat)) x.1) }) (fun x=> ([(2,.slice X n xc),(3,.pointer (some ⟨b3,0,none⟩)),(6,x.1.2.2.val),(7,.bool x.1.2.1),(10,.slice (some ⟨cb,0,none⟩) s.length cc),(12,gS.val),(14,.int .i64 (x.1.1:Nat))],(b3,true,.cells ⟨q.val.cells.toList⟩ 32 (0,0))::x.1.2.2.bl)) (fun x=> s.length-x.1.1) ?_ ⟨(0,true,Gl.nil 3 1),Nat.zero_le _,rfl,fun _=> rfl⟩);rintro⟨⟨j,al,g⟩,hj,hgn,hal⟩ ih;simp only at hj hgn hal;show Tc M St _ _ H₂ _ [(2,.slice X n xc),(3,.pointer (some ⟨b3,0,none⟩)),(6,g.val),(7,.bool al),(10,.slice (some ⟨cb,0,none⟩) s.length cc),(12,gS.val),(14,.int .i64 (j:Nat))] ((b3,true,.cells ⟨q.val.cells.toList⟩ 32 (0,0))::g.bl) _ _;by_cases d1:j=s.length
 ·clear ih;subst d1;refine U19 ?_;refine .rt hK func19 results19 [_,_,_,_] ?_;exact fun H' hs=> ⟨View.le_trans hle2 hs.base,g,al,true,rfl,fun h _=> ⟨hgn,hal h,fun x hx=> ⟨hs.at_ x (List.mem_cons_of_mem _ hx),by
   have:=hs.out x (List.mem_cons_of_mem _ hx);cases h0:H x.1 with
   | none=> rfl
   | some z=> rw[hle2 _ _ h0] at this;cases this⟩⟩⟩
 ·have d2 :j<s.length:=by omega
  have hpn:=pnAt_in hs1 j;obtain⟨x,hx,_,_⟩:=dec_dig s j d2 hs1;have f3:ldL false 1 (codesL s++cj) (0+((j:Nat):Int).toNat*1)=some (.int .i64 (pnAt s j:Nat)):=by
   rw[codes_at hx cj];unfold pnAt;rw[hx];rfl
  obtain⟨m,o,hmo,hm,hso,hm31⟩:=rdv_tells hq (l.drop (10*j)) (c:=pnAt s j) oM;have hPast:=Sg.Lk.past_of hq (pnAt s j) (l.drop (10*j));obtain⟨X',xc',hX',hsh⟩:=later_c M H X l n xc hn hc hX (10*j) oM;have hmul:intBin .mul .i64 10 ((j:Nat):Int)=some (.int .i64 ((10*j:Nat):Int)):=by
   rw[mul_in oM oM];rfl
  have hread:∀(H':View) (g:Gl 3 1),H.le H'->g.l=Sg.intsL (q.pMoves (l.drop (10*j)) (Sg.placesTo (pnAt s j) 7).length)->(∀y∈g.bl,H' y.1=some y.2)->CallT M 53 #[q.val,.int .i64 (pnAt s j:Nat),Sg.pastV (q.pSend (l.drop (10*j))) (q.pRead (l.drop (10*j))) (q.pLean (l.drop (10*j))) g] H' (fun v H''=> H'.le H''/\v=.tuple ⟨[.int .i64 (m:Nat),.bool o,.int .i64 0]⟩):=fun H' g h1 h2 h3=> by
   obtain⟨h4,h5⟩:=Sg.Nums.of h2 h3;exact isV (Sg.Read_good M H' q (Sg.glob_le hC h1) hq (pnAt s j) oM _ _ _ _ hPast _ g.n g.cap (by rw[<-hPast.len];exact h4) h5) hmo
  have hpast:=fun(H':View) (h:H.le H')=> Sg.Past_c M H' q hq (pnAt s j) oM X' (l.drop (10*j)) _ xc' rfl (hX'.le h);clear hPast hmo hX';obtain⟨su,hsu⟩:∃su,q.sureOf (pnAt s j)=su:=⟨_,rfl⟩
  have hnum:decide (((pnAt s j:Nat):Int)∈Sg.keepI q.sureOf 32)=su:=by
   rw[<-hsu];apply Bool.eq_iff_iff.2
   rw[decide_eq_true_eq,Sg.keepI_mem];exact⟨fun h=> h.2,fun h=> ⟨oM,h⟩⟩
  have hhas:=fun(H':View) (h:H₂.le H')=> isB (Sg.HasNum_c M H' _ (Sg.keepI q.sureOf 32) gS.n gS.cap ((pnAt s j:Nat):Int) hSn oM (hSN.le h)) hnum;rw[hsu] at hso;clear hnum hsu hSN hSn;obtain⟨lj,hlj⟩:∃lj,l.drop (10*j)=lj:=⟨_,rfl⟩
  rw[hlj] at hsh hread hpast;have hcl:=clL_succ (fun j=> (pnAt s j:Nat)) j;obtain⟨c,hc'⟩:∃c,pnAt s j=c:=⟨_,rfl⟩
  rw[hc'] at hpn f3 hso hread hpast hhas hcl;clear hm;refine U19 ?_;refine .cl (fun H hs=> In_c M H (c:Nat) 1 10 true (decide_eq_true oM)) ?_;refine U5 ?_;refine Tc.dr [] [] mixed rfl ?_;refine V13 0 ?_;refine .z 13 rfl (OpV.tk fun H hs=> hsh H (View.le_trans hle2 hs.base)) ?_;refine .ea 14 rfl (Or.callNew (fun g:Gl 3 1=> Sg.pastV (q.pSend lj) (q.pRead lj) (q.pLean lj) g) Gl.bl (fun g:Gl 3 1=> g.l=Sg.intsL (q.pMoves lj (Sg.placesTo c 7).length)) rfl rfl rfl rfl rfl dE Sg.gl_nodup (fun H hs=> .h (hpast H (View.le_trans hle2 hs.base))) (fun gp hg=> ⟨S2.mk sL (.inr sL),?_⟩));refine .ea 15 rfl (Or.ofT (OpV.tk fun H hs=> hread H gp (View.le_trans hle2 hs.base) hg (fun y hy=> hs.at_ y (by simp[hy]))) rfl dE ⟨S2.mk sL (.inr sL),?_⟩);refine V7 16 ?_;refine .dn ?_;refine Tc.db (R':= [(2,.slice X n xc),(3,.pointer (some ⟨b3,0,none⟩)),(6,g.val),(7,.bool al),(10,.slice (some ⟨cb,0,none⟩) s.length cc),(12,gS.val),(14,.int .i64 (j:Nat)),(15,.int .i64 (m:Nat)),(16,.bool o),(17,.int .i64 0)]) (L':=(b3,true,.cells ⟨q.val.cells.toList⟩ 32 (0,0))::g.bl) ?_;clear hread hpast hsh hg gp;refine U7 ?_;refine .cl (fun H hs=> hhas H hs.base) ?_;refine U2 ?_;cases su with
  | true=>
   obtain⟨rfl,rfl⟩:=hso rfl;refine U30 ?_;refine .cl (fun H hs=> In_c M H (m:Nat) 1 10 true (decide_eq_true oM)) ?_;refine U3 ?_;cases al with
   | true=>
    refine U13 ?_;refine .e (.bs (zz:=fun bs=> ?_));refine .e (Or.append (E:=en) 2 rfl rfl rfl rfl rfl rfl rfl rfl rfl rfl rfl rfl rfl rfl rfl (fun H hs=> SrcAt.of (hs.get (i:=0) rfl) (Nat.le_of_ble_eq_true rfl)) rfl oM rfl dE (fun g6 hn6 hl6=> ?_));refine U8 ?_;exact Tc.db (ih ⟨(j+1,true,g6),by simp only;omega,by simp only;omega,fun _=> by simp only;rw[hl6,hal rfl,hcl];rfl⟩ (by simp only;omega))
   | false=>
    refine U13 ?_;refine .e (.bs (zz:=fun bs=> ?_));refine .e (Or.append (E:=en) 2 rfl rfl rfl rfl rfl rfl rfl rfl rfl rfl rfl rfl rfl rfl rfl (fun H hs=> SrcAt.of (hs.get (i:=0) rfl) (Nat.le_of_ble_eq_true rfl)) rfl oM rfl dE (fun g6 hn6 hl6=> ?_));refine U8 ?_;exact Tc.db (ih ⟨(j+1,false,g6),by simp only;omega,by simp only;omega,fun h=> by cases h⟩ (by simp only;omega))
  | false =>
   cases o with
   | false=>
    refine U11 ?_;refine To.skippedU rfl dE rfl ?_;refine To.skippedU rfl dE rfl ?_;refine To.skippedU rfl dE rfl ?_;refine To.skippedU rfl dE rfl ?_;refine To.skippedU rfl dE rfl ?_;refine To.skippedU rfl dE rfl ?_;refine U25 ?_;refine .rt hK func19 results19 [_,_,_,_] ?_;exact fun H' hs=> ⟨View.le_trans hle2 hs.base,Gl.nil 3 1,false,false,rfl,fun h=> by cases h⟩
   | true=>
    by_cases hm10:1<=m/\m<=10
    ·refine U11 ?_;refine To.skippedU rfl dE rfl ?_;refine To.skippedU rfl dE rfl ?_;refine To.skippedU rfl dE rfl ?_;refine To.skippedU rfl dE rfl ?_;refine To.skippedU rfl dE rfl ?_;refine To.skippedU rfl dE rfl ?_;refine U13 ?_;refine .cl (fun H hs=> In_c M H (m:Nat) 1 10 true (decide_eq_true oM)) ?_;refine U3 ?_;cases al
     all_goals
      refine U6 ?_;first|(refine .sk ?_)|(refine .m ?_)
      refine U6 ?_;refine .e (.bs (zz:=fun bs=> ?_));refine .e (Or.append (E:=en) 2 rfl rfl rfl rfl rfl rfl rfl rfl rfl rfl rfl rfl rfl rfl rfl (fun H hs=> SrcAt.of (hs.get (i:=0) rfl) (Nat.le_of_ble_eq_true rfl)) rfl oM rfl dE (fun g6 hn6 hl6=> ?_));refine U8 ?_;exact Tc.db (ih ⟨(j+1,false,g6),by simp only;omega,by simp only;omega,fun h=> by cases h⟩ (by simp only;omega))
    ·refine U11 ?_;refine To.skippedU rfl dE rfl ?_;refine To.skippedU rfl dE rfl ?_;refine To.skippedU rfl dE rfl ?_;refine To.skippedU rfl dE rfl ?_;refine To.skippedU rfl dE rfl ?_;refine To.skippedU rfl dE rfl ?_;refine U13 ?_;refine .cl (fun H hs=> In_c M H (m:Nat) 1 10 false (decide_eq_false oM)) ?_;refine U11 ?_;refine .rt hK func19 results19 [_,_,_,_] ?_;exact fun H' hs=> ⟨View.le_trans hle2 hs.base,Gl.nil 3 1,false,false,rfl,fun h=> by cases h⟩
end
end Go.Proofs.YtcagolloalgfiaaGreatDoor
namespace Go.RL
section
variable {P:Program}{M:Md P}{St:View->Goroutine->Prop}{n:Nat}{b:FB}{H₀:View}{cs:List Frame}{R:Rg}{L:Bl}{ds:List Deferred}{k:List Item}{ops:Array Oper}
theorem Tc.drK {id:Nat}{fuel:Nat}(B:List Nat)(m:Nat)(hm:P.follows .mixedOrders=true)(hf:ops.size=fuel)(h:Ta M St n b H₀ cs (S2 H₀ B (L.take m) L) .any ops fuel (Array.replicate fuel false) R L ds k):
  Tc M St n b H₀ cs R L ds (.code (.region id ops true)::k):=fun H tmps hs hr=> by
 subst hf;refine .region_draw fun t=> ?_;simp only[Region.schedule,hm,Bool.true_or,if_true];have hS:=S2.mk (H₀:=H₀) (B:=B) (listed:=Array.replicate ops.size false) (List.take_sublist m L) (.inr (List.Sublist.refl L)) H hs;exact(h H tmps hs hr hS).sound _ t _ _ _ hS
end
end Go.RL
namespace Go.Proofs.YtcagolloalgfiaaGreatDoor
open Go.RL Go.Proofs.Tryz
set_option maxRecDepth 10000
set_option maxHeartbeats 16000000
def headS:Code->Code
 | .seq a _=> a
 | c=> c
def dropS:Nat->Code->Code
 | 0,c=> c
 | n+1,.seq _ b=> dropS n b
 | _+1,c=> c
section
variable(M:Md prog)(H:View)
theorem TopC_w {St:View->Goroutine->Prop}{cs:List Frame}(hR:∀(H₀:View) (R:Rg) (L:Bl) (kk:List Item),lk R 16=some (.bool true)->H.le H₀->Tc M St 349 ⟨3,.normal,none⟩ H₀ cs R L [] (.code .ret::kk))(hG:Glob H)(hS:Sig H)(hC:Sg.Glob H)(k:Bk)(A:Option Addr)(lc:Nat)(B:Option Addr)(tc:Nat)(hk:BkAt H k A lc B tc)(hfit:k.fit=true)(hnl:k.nl≠0)(q:Sg.Lk)(hq:q.ok=true)(p:Int)(hp:0<=p/\p<256)(Y:Option Addr)(l:List Int)(n yc:Nat)(hn:n=l.length)(hc:n<=yc)(hY:Sg.Picks H Y l)
  (H₇:View) (h7:H.le H₇) (b9 b10:Nat):
  Tc M St 349 ⟨3,.normal,none⟩ H₇ cs [(4,.slice Y n yc),(7,.int .u8 p),(9,.pointer (some ⟨b9,0,none⟩)),(10,.pointer (some ⟨b10,0,none⟩))] [(b10,true,.cells ⟨(k.val A lc B tc).cells.toList⟩ 36 (0,0)),(b9,true,.cells ⟨q.val.cells.toList⟩ 32 (0,0))] [] [.code (headS (dropS 18 (bodyOf Tryz.f3))),.code (dropS 19 (bodyOf Tryz.f3))]:=by
 have htp:=fun(H':View) (h:H.le H')=> typed_c M H' (hS.le h);obtain⟨hgr,hal⟩:k.great=false/\k.alarm=0:=by
  unfold Bk.fit at hfit;rw[Bool.and_eq_true] at hfit;exact⟨by simpa using hfit.1,of_decide_eq_true hfit.2⟩
 have hsm:k.small:=Bk.ungreat_small hgr;have hnm:∀i,i<k.nl->(k.name i).length<=1000000:=fun i hi=> by have:=(Bk.ungreat hgr).2.2 i hi;omega
 obtain⟨hgg,hnl6,_,_⟩:=Bk.valid hal;obtain⟨w,hw,hwp⟩:∃w:Nat,w<k.nl/\p%(k.nl:Int)=(w:Nat):=⟨(p%(k.nl:Int)).toNat,by
  have h1:=Int.emod_lt_of_pos p (show(0:Int)<k.nl by omega);have h2:=Int.emod_nonneg p (show(k.nl:Int)≠0 by omega);exact⟨oM,oM⟩⟩
 have hr1:intBin .rem .i64 p (k.nl:Nat)=some (.int .i64 (w:Nat)):=by rw[rem_in oM oM,hwp]
 have w2:IntKind.i64.wrap p=p:=wrap64 oM oM;obtain⟨hs1,hl1,hl3⟩:=Bk.isNum_of hal hw;have hs3:k.num w≠ []:=fun h=> by rw[h] at hl1;simp only[List.length_nil] at hl1;omega
 have hpu:∀i,i<(k.num w).length->1<=pnAt (k.num w) i/\pnAt (k.num w) i<=10:=fun i _=> pnAt_in hs1 i;have halB:=dialB_alarm (n:=(k.num w).length) (pu:=pnAt (k.num w)) hal oM hpu (P:=k.gap) (Q:=k.give-1) oM;have hsetB:=dialB_settled hal hw (P:=k.gap) (Q:=k.give-1) oM oM;have hsm2:(dialB k (k.num w).length (pnAt (k.num w)) k.gap (k.give-1)).small:=⟨hsm.nl,by show(k.num w).length<=1000;omega,hsm.num⟩
 obtain⟨hlc,hz|⟨ab,ao,fa,gs,gt,gz,rfl,hab,hrow⟩⟩:=id hk.rows
 ·omega
 obtain⟨F,fc,f1,_,_⟩:=hrow w hw;have f2:ldL false 1 gs (ao+((w:Nat):Int).toNat*3+1)=some (strV (k.num w)):=ldL_cell f1 dE;clear f1;have hab7:=h7 _ _ hab;refine U10 ?_;refine Tc.dr [] [] mixed rfl ?_;refine V8 0 ?_;refine Ta.callL 8 kR rfl rfl rfl rfl rfl rfl rfl dE (FnT.h (numbered_c M H₇ (hS.le h7) (Sg.glob_le hC h7) q hq (k.num w) hs1 oM hs3 Y l n yc hn hc (hY.le h7))) (by intro _ _ hh;exact hh.1) sL (.inr sL) (fun v H₈ hv=> ?_);obtain⟨hle8,gp,su,rd,rfl,hgood⟩:=hv;refine .ea 9 rfl (Or.ofV .mv rfl dE ⟨S2.mkL (by assumption) sL (.inr sL),?_⟩);refine V4 10 ?_;refine .ea 14 rfl (Or.ofV .sg rfl dE ⟨S2.mkL (by assumption) sL (.inr sL),?_⟩);refine .ea 15 rfl (Or.ofV .sg rfl dE ⟨S2.mkL (by assumption) sL (.inr sL),?_⟩);refine .ea 16 rfl (Or.ofV .sg rfl dE ⟨S2.mkL (by assumption) sL (.inr sL),?_⟩);refine .ea 17 rfl (Or.ofV .sg rfl dE ⟨S2.mkL (by assumption) sL (.inr sL),?_⟩);refine .dn ?_;have h8:=View.le_trans h7 hle8;cases rd with
 | false=>
  refine U21 ?_;refine .cl (fun H hs=> htp H (View.le_trans h8 hs.base)) ?_;refine U2 ?_;exact hR _ _ _ _ rfl h8
 | true=>
 cases su with
 | false=>
  refine U21 ?_;refine .cl (fun H hs=> htp H (View.le_trans h8 hs.base)) ?_;refine U2 ?_;exact hR _ _ _ _ rfl h8
 | true=>
 obtain⟨n1,l1,gb⟩:=hgood rfl rfl;have hF:=cl_at gp (fun x hx=> (gb x hx).1) l1 n1;have hgv:gp.val=.slice (gp.blk.map fun b=> ⟨b,0,none⟩) (k.num w).length gp.cap:=by unfold Gl.val;rw[n1]
 obtain⟨gA,hgA⟩:∃gA:Option Addr,(gp.blk.map fun b=> (⟨b,0,none⟩:Addr))=gA:=⟨_,rfl⟩
 rw[hgA] at hF hgv;rw[hgv];refine U23 ?_;refine .al fun b41=> ?_;refine U13 ?_;refine Tc.db (R':= [(10,.pointer (some ⟨b10,0,none⟩)),(36,.int .i64 (w:Nat)),(37,.slice gA (k.num w).length gp.cap),(41,.pointer (some ⟨b41,0,none⟩)),(42,.int .i64 ((0:Nat):Int))]) (L':= [(b41,true,.cells ⟨[.int .i64 k.gap,.int .i64 k.give,.slice (some ⟨ab,ao,none⟩) k.nl lc,.slice none 0 0]⟩ 36 (0,0)),(b10,true,.cells ⟨(k.val (some ⟨ab,ao,none⟩) lc B tc).cells.toList⟩ 36 (0,0))]) ?_;refine Tc.perm (List.Perm.swap _ _ _) ?_;refine Tc.db (Tc.loopInv (σ:= { x:Nat×Gl 73 4//x.1<=(k.num w).length/\x.2.n=x.1/\x.2.l=quadsB (pnAt (k.num w)) k.gap (k.give-1) x.1 }) (fun x=> ([(10,.pointer (some ⟨b10,0,none⟩)),(36,.int .i64 (w:Nat)),(37,.slice gA (k.num w).length gp.cap),(41,.pointer (some ⟨b41,0,none⟩)),(42,.int .i64 (x.1.1:Nat))],(b10,true,.cells ⟨(k.val (some ⟨ab,ao,none⟩) lc B tc).cells.toList⟩ 36 (0,0))::(b41,true,.cells ⟨[.int .i64 k.gap,.int .i64 k.give,.slice (some ⟨ab,ao,none⟩) k.nl lc,x.1.2.val]⟩ 36 (0,0))::x.1.2.bl)) (fun x=> (k.num w).length-x.1.1) ?_ ⟨(0,Gl.nil 73 4),Nat.zero_le _,rfl,rfl⟩);rintro⟨⟨j,g⟩,g1,g2,g3⟩ ih;simp only at g1 g2 g3;show Tc M St _ _ H₈ _ [(10,.pointer (some ⟨b10,0,none⟩)),(36,.int .i64 (w:Nat)),(37,.slice gA (k.num w).length gp.cap),(41,.pointer (some ⟨b41,0,none⟩)),(42,.int .i64 (j:Nat))] ((b10,true,.cells ⟨(k.val (some ⟨ab,ao,none⟩) lc B tc).cells.toList⟩ 36 (0,0))::(b41,true,.cells ⟨[.int .i64 k.gap,.int .i64 k.give,.slice (some ⟨ab,ao,none⟩) k.nl lc,g.val]⟩ 36 (0,0))::g.bl) _ _;by_cases d1:j=(k.num w).length
 ·clear ih;subst d1;have hgv1:g.val=.slice (g.blk.map fun b=> ⟨b,0,none⟩) (k.num w).length g.cap:=by unfold Gl.val;rw[g2]
  have hch:=fun(H':View) (h1:H.le H') (hT:TrainsAt H' (dialB k (k.num w).length (pnAt (k.num w)) k.gap (k.give-1)) (g.blk.map fun b=> ⟨b,0,none⟩) g.cap)=> isV (refCheckBook_c M H' (dialB k (k.num w).length (pnAt (k.num w)) k.gap (k.give-1)) (some ⟨ab,ao,none⟩) lc (g.blk.map fun b=> ⟨b,0,none⟩) g.cap ⟨hk.rows.le h1,hT⟩ hsm2 hnm) (w':=.int .i64 0) (by rw[halB]);have hse:=fun(H':View) (h1:H.le H') (hT:TrainsAt H' (dialB k (k.num w).length (pnAt (k.num w)) k.gap (k.give-1)) (g.blk.map fun b=> ⟨b,0,none⟩) g.cap)=> isV (Settled_c M H' (dialB k (k.num w).length (pnAt (k.num w)) k.gap (k.give-1)) (some ⟨ab,ao,none⟩) lc (g.blk.map fun b=> ⟨b,0,none⟩) g.cap ⟨hk.rows.le h1,hT⟩ hsm2 (glob_le hG h1) halB) (w':=.tuple ⟨[.int .i64 ((k.num w).length:Nat),.int .i64 (w:Nat),.bool true,.int .i64 0]⟩) (by rw[hsetB];rfl);have hm1:∀x∈g.bl,x∈((b10,true,.cells ⟨(k.val (some ⟨ab,ao,none⟩) lc B tc).cells.toList⟩ 36 (0,0))::(b41,true,.cells ⟨[.int .i64 k.gap,.int .i64 k.give,.slice (some ⟨ab,ao,none⟩) k.nl lc,g.val]⟩ 36 (0,0))::g.bl:Bl):=fun x hx=> by simp[hx]
  rw[hgv1] at hm1;rw[hgv1];refine U14 ?_;refine .cl (fun H hs=> hch H (View.le_trans h8 hs.base) (dialB_trains k g (fun x hx=> hs.at_ x (hm1 x hx)) g2 g3)) ?_;refine U7 ?_;refine .cl (fun H hs=> hse H (View.le_trans h8 hs.base) (dialB_trains k g (fun x hx=> hs.at_ x (hm1 x hx)) g2 g3)) ?_;refine U29 ?_;refine .cl (fun H hs=> htp H (View.le_trans h8 hs.base)) ?_;refine U3 ?_;exact hR _ _ _ _ rfl h8
 ·have d2:j<(k.num w).length:=by omega
  have hqs:=quadsB_succ (pnAt (k.num w)) k.gap (k.give-1) j;rcases hF with h0|⟨fb,fo,ff,fgs,fgt,fgz,rfl,hfb,hfl⟩
  ·omega
  have f3:=hfl j d2;simp only at f3;obtain⟨x,hx⟩:∃x,pnAt (k.num w) j=x:=⟨_,rfl⟩
  rw[hx] at f3 hqs;refine U12 ?_;refine Tc.drK [15,17] 1 mixed rfl ?_;refine .nw 0 ?_;refine .nn 1 ?_;refine .nw 2 ?_;refine .nw 3 ?_;refine .nw 4 ?_;refine .nw 5 ?_;refine Ta.tkw 6 kR rfl rfl rfl dE rfl rfl (OpV.tk fun H hs=> one7_c M H (x:Nat)) ?_;refine .nw 7 ?_;refine .nw 8 ?_;refine .nw 9 ?_;refine .nw 10 ?_;refine .nw 11 ?_;refine .z 12 rfl (OpV.tk fun H hs=> to7_c M H k.gap (k.give-1)) ?_;refine .nw 13 ?_;refine .ea 14 rfl (.bs (zz:=fun bs=> ⟨S2.mk sL (.inr sL),?_⟩));refine .ea 15 rfl (Or.append (E:=en) (g:=g) (m:=1) (new:= [.int .i64 (x:Nat),.int .i64 (x:Nat),.int .i64 k.gap,.int .i64 (k.give-1)]) (yv:=.slice (some ⟨bs,0,none⟩) 1 1) 3 rfl rfl rfl rfl rfl rfl rfl rfl rfl rfl rfl rfl rfl rfl rfl (fun H hs=> SrcAt.of (hs.get (i:=0) rfl) (Nat.le_of_ble_eq_true rfl)) rfl oM rfl dE (fun g5 hn5 hl5=> ⟨S2.mk sL (.inl kR),?_⟩));refine .nw 16 ?_;refine .e 17 2 ?_;refine .dn ?_;refine U6 ?_;exact Tc.db (ih ⟨(j+1,g5),by simp only;omega,by simp only;omega,by simp only;rw[hl5,g3,hqs]⟩ (by simp only;omega))
end
end Go.Proofs.YtcagolloalgfiaaGreatDoor
namespace Go.RL
open Go.Conc
section
variable {P:Program}{M:Md P}{St:View->Goroutine->Prop}{n:Nat}{b:FB}{H₀:View}{cs:List Frame}{R:Rg}{L L':Bl}{ds:List Deferred}{k:List Item}{md:Region.Mode}{ops:Array Oper}
def S4(H₀:View)(B B':List Nat)(Ls L L':Bl):Array Bool->View->Prop:=fun listed H=> S2 H₀ B Ls L listed H/\S2 H₀ B' Ls L' listed H
theorem S4.same {B B':List Nat}{Ls:Bl}{i:Nat}(hi:B.contains i=false)(hi':B'.contains i=false):∀listed H,S4 H₀ B B' Ls L L' (listed.setIfInBounds i true) H<->S4 H₀ B B' Ls L L' listed H:=fun listed H=>
 and_congr (S2.same hi listed H) (S2.same hi' listed H)
theorem S4.mk {B B':List Nat}{Ls L₁:Bl}{listed:Array Bool}(h1:Ls.Sublist L₁)(h2:(B.all fun j=> !(listed.getD j true))=false\/L.Sublist L₁)(h3:(B'.all fun j=> !(listed.getD j true))=false\/L'.Sublist L₁):∀H,SymSt H₀ L₁ H->S4 H₀ B B' Ls L L' listed H:=fun H hs=>
 ⟨S2.mk h1 h2 H hs,S2.mk h1 h3 H hs⟩
theorem Ta.tka {H₁:View}(i:Nat){B B':List Nat}{Ls L₁:Bl}{o:Oper}{d:Nat}{v:Value}{fuel:Nat}{listed:Array Bool}(hc:takeOk md ops B listed i=true)(hSi':B'.contains i=false)(hi:ops[i]? =some o)(hd:o.dst=some d)(hn:d<n)(hnd:isDefer o.op=false)(hw:wantB (ops.toList.map (fun o:Oper=> o.dst)) R o=some true)
  (hv:∀H tmps,SymSt H₀ L H->RegOk n R tmps->OpVal M o tmps H fun u H'=> u=v/\H.le H')
  (h:Ta M St n b H₁ cs (S4 H₀ B B' Ls L L') md ops fuel (listed.setIfInBounds i true) ((d,v)::R) L₁ ds k):Ta M St n b H₁ cs (S4 H₀ B B' Ls L L') md ops (fuel+1) listed R L₁ ds k:=by
 simp only[takeOk,Bool.and_eq_true,Bool.not_eq_true'] at hc;obtain⟨⟨⟨⟨⟨hsel,hr⟩,hf⟩,hcl⟩,hSi⟩,hB⟩:=hc;exact .take i hi hsel hr hf hd hn hnd hcl (S4.same hSi hSi') hw (fun _ hc hu H tmps hS hr=> by
  have:=hv H tmps (hS.1.strong hc hu hB) hr;unfold OpVal at this ⊢;have fin:∀u H',(u=v/\H.le H')->u=v/\H.le H'/\S4 H₀ B B' Ls L L' _ H':=fun u H' ⟨h1,h2⟩=> ⟨h1,h2,⟨hS.1.1.mono h2,fun hh=> (hS.1.2 hh).mono h2⟩,⟨hS.2.1.mono h2,fun hh=> (hS.2.2 hh).mono h2⟩⟩
  refine vwp_mono _ (fun nx H' hn=> ?_) this;cases nx <;> first
   | exact hn.elim
   | exact fin _ _ hn
   | exact CallT.mono hn fin
   | exact GoT.mono hn fin) h
theorem Ta.tkb {H₁:View}(i:Nat){B B':List Nat}{Ls L₁:Bl}{o:Oper}{d:Nat}{v:Value}{fuel:Nat}{listed:Array Bool}(hc:takeOk md ops B' listed i=true)(hSi':B.contains i=false)(hi:ops[i]? =some o)(hd:o.dst=some d)(hn:d<n)(hnd:isDefer o.op=false)(hw:wantB (ops.toList.map (fun o:Oper=> o.dst)) R o=some true)
  (hv:∀H tmps,SymSt H₀ L' H->RegOk n R tmps->OpVal M o tmps H fun u H'=> u=v/\H.le H')
  (h:Ta M St n b H₁ cs (S4 H₀ B B' Ls L L') md ops fuel (listed.setIfInBounds i true) ((d,v)::R) L₁ ds k):Ta M St n b H₁ cs (S4 H₀ B B' Ls L L') md ops (fuel+1) listed R L₁ ds k:=by
 simp only[takeOk,Bool.and_eq_true,Bool.not_eq_true'] at hc;obtain⟨⟨⟨⟨⟨hsel,hr⟩,hf⟩,hcl⟩,hSi⟩,hB⟩:=hc;exact .take i hi hsel hr hf hd hn hnd hcl (S4.same hSi' hSi) hw (fun _ hc hu H tmps hS hr=> by
  have:=hv H tmps (hS.2.strong hc hu hB) hr;unfold OpVal at this ⊢;have fin:∀u H',(u=v/\H.le H')->u=v/\H.le H'/\S4 H₀ B B' Ls L L' _ H':=fun u H' ⟨h1,h2⟩=> ⟨h1,h2,⟨hS.1.1.mono h2,fun hh=> (hS.1.2 hh).mono h2⟩,⟨hS.2.1.mono h2,fun hh=> (hS.2.2 hh).mono h2⟩⟩
  refine vwp_mono _ (fun nx H' hn=> ?_) this;cases nx <;> first
   | exact hn.elim
   | exact fin _ _ hn
   | exact CallT.mono hn fin
   | exact GoT.mono hn fin) h
theorem Tc.dr4 {id:Nat}{fuel:Nat}(B E B' E' Es:List Nat)(hm:P.follows .mixedOrders=true)(hf:ops.size=fuel)(h:Ta M St n b H₀ cs (S4 H₀ B B' (eraseL L Es) (eraseL L E) (eraseL L E')) .any ops fuel (Array.replicate fuel false) R L ds k):
  Tc M St n b H₀ cs R L ds (.code (.region id ops true)::k):=fun H tmps hs hr=> by
 subst hf;refine .region_draw fun t=> ?_;simp only[Region.schedule,hm,Bool.true_or,if_true];have hS:=S4.mk (H₀:=H₀) (B:=B) (B':=B') (listed:=Array.replicate ops.size false) (eraseL_sub Es L) (.inr (eraseL_sub E L)) (.inr (eraseL_sub E' L)) H hs;exact(h H tmps hs hr hS).sound _ t _ _ _ hS
end
end Go.RL
