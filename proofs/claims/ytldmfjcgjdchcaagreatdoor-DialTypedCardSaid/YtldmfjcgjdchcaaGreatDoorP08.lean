/-
  Texts of the proofs over baudot/dial: AppStr DW DX X1 Z1 Z2 Z3 Z7 X2 Y1 Y2 Y3 Y4 Y5 Y6 DrawL VLess W1 W2 X3 KD Draw6 X4.
-/
import Derived.Test.YtldmfjcgjdchcaaGreatDoorP07
namespace Go.RL
open Go.Conc
section
variable {P:Program}{E:Env P}{M:Md P}{n:Nat}{H₀:View}{R:Rg}{L L':Bl}{K:Rg→Bl→Prop}{o:Oper}{d:Nat}{v:Value}
theorem vwp_appendXC {t xt e:TypeId}{rt:TypeId}{r re:TyRow}{sz m:Nat}{y:Value}{new:List Value}{g:Gl e sz}{H:View}{Q:Value→View→Prop}(ht:E.ty t=some r)(hds:r.ds=.slice e)(hre:E.ty e=some re)(hsz:re.size=sz)(hzs:re.zero.cells.toList.length=sz)
   (hxt:∃rx,E.ty xt=some rx∧rx.ds=.str) (hby:re.bytes≤1000) (hn:g.n+m≤1000000000) (hb:∀x∈g.bl,H x.1=some x.2) (hyl:∀Q:Nat→View→Prop,Q m H→vwp P (Builtin.lenOf y) H Q) (hyf:∀Q:Array Value→View→Prop,Q ⟨new⟩ H→vwp P (Builtin.firstCells sz m y) H Q) (hyn:new.length=m*sz) (hs:new.all single=true)
   (hq:∀(g':Gl e sz) (H':View),g'.n=g.n+m→g'.l=g.l++new→(∀b,g'.blk=some b→((g.blk=some b∧g'.cap=g.cap)∨H b=none))→(∀c,(∀b,g'.blk=some b→b≠c)→H' c=H c)→(∀x∈g'.bl,H' x.1=some x.2)→Q g'.val H'):
   vwp P (Builtin.append_ #[t,xt] rt #[g.val,y]) H Q:=by
 obtain⟨rx,hx1,hx2⟩:=hxt;have hold:=g.src hb;obtain⟨a,hga⟩:∃a,g.val=.slice a g.n g.cap:=⟨_,rfl⟩
 show vwp P ((underlying t).bind fun _=> _) H Q;refine vwp_bind (underlying t) _ (vwp_underlying (ds_slice ((E.ok _ _ ht).ds.trans hds)) ?_);rw[hga];show vwp P ((sizeOf e).bind fun _=> _) H Q;refine vwp_bind (sizeOf e) _ (vwp_sizeOf (E.ok _ _ hre).size ?_);refine vwp_bind (underlying xt) _ (vwp_underlying (ds_str ((E.ok _ _ hx1).ds.trans hx2)) ?_);refine vwp_bind (Builtin.lenOf y) _ (hyl _ ?_);simp only[hsz];by_cases hcap:g.n+m≤g.cap
 · rw[if_pos hcap];show vwp P ((Builtin.firstCells sz m y).bind fun _=> _) H Q;refine vwp_bind _ _ (hyf _ ?_);cases hblk:g.blk with
   | none=>
     have h1:=g.h0 hblk;have e1:a=none:=by
       unfold Gl.val at hga;rw[hblk] at hga
       injection hga with e1
       exact e1.symm
     subst e1;have hm:m=0:=by omega
     have hnew:new= []:=List.eq_nil_of_length_eq_zero (by rw[hyn,hm];simp);have:=hq g H (by omega) (by rw[hnew];simp) (fun b hb=> .inl ⟨hb,rfl⟩) (fun c _=> rfl) hb;rw[hga] at this;show Q (.slice none (g.n+m) g.cap) H;rw[hm];exact this
   | some b=>
     have e1:a=some ⟨b,0,none⟩:=by
       unfold Gl.val at hga;rw[hblk] at hga;cases hga
       rfl
     subst e1;have hHb:H b=some (true,.cells ⟨g.l++g.junk⟩ e (0,0)):=by
       have:=hb (b,true,.cells ⟨g.l++g.junk⟩ e (0,0)) (by unfold Gl.bl;rw[hblk];simp);exact this
     show vwp P ((storeCells (Addr.add ⟨b,0,none⟩ (g.n*sz)) new).bind fun _=> Sem.pure (.slice (some ⟨b,0,none⟩) (g.n+m) g.cap)) H Q;refine vwp_bind _ _ ?_;rw[add_off _ _ rfl];have hlen:new.length=m*sz:=hyn;have hjl:m*sz≤g.junk.length:=by rw[g.hj];exact Nat.mul_le_mul_right _ (by omega)
     refine vwp_storeCells b _ new 0 (g.l++g.junk) hHb (by simp only[List.length_append,g.hl];omega) hs fun H' hH'=> ?_;have hst:stL (g.l++g.junk) (0+g.n*sz+0) new=(g.l++new)++g.junk.drop new.length:=by
       unfold stL;simp only[Nat.zero_add,Nat.add_zero,←g.hl,List.take_left',List.drop_append];simp
     let g':Gl e sz:=⟨some b,g.n+m,g.cap,g.l++new,g.junk.drop new.length,by simp[g.hl,hlen,Nat.add_mul],hcap,by rw[List.length_drop,g.hj,hlen,←Nat.sub_mul];congr 1;omega,fun h=> by cases h⟩
     have key:∀x∈g'.bl,H' x.1=some x.2:=by
       intro x hx;simp only[g',Gl.bl,List.mem_singleton] at hx;subst hx;show H' b=some (true,.cells ⟨(g.l++new)++g.junk.drop new.length⟩ e (0,0));rw[hH'];split
       · rename_i hnil
         subst hnil;simpa using hHb
       · rw[View.put_same,hst]
     exact hq g' H' rfl rfl (fun b' hb'=> .inl ⟨by cases hb';exact hblk,rfl⟩) (fun c hc=> by
       rw[hH'];split
       · rfl
       · rw[View.put_other];intro e;exact hc b rfl e.symm) key
 · rw[if_neg hcap];have hbytes:=(E.ok _ _ hre).bytes;cases hi:P.info? e with
   | none=> rw[hi] at hbytes;cases hbytes
   | some i=>
     rw[hi] at hbytes;simp only[Option.map_some,Option.some.injEq] at hbytes;have hib:i.bytes≤1000:=by omega
     have hmax:IntKind.i64.max=9223372036854775807:=by decide
     show vwp P ((typeInfo e).bind fun _=> _) H Q;refine vwp_bind (typeInfo e) _ (vwp_typeInfo hi ?_);rw[if_neg (by rw[hmax];omega)];show vwp P ((typeInfo e).bind fun _=> _) H Q;refine vwp_bind (typeInfo e) _ (vwp_typeInfo hi ?_);rw[if_neg]
     · show vwp P ((choose _).bind fun newCap=> _) H Q;refine vwp_bind (choose _) _ ?_;intro tt;rw[if_neg (by simp[Question.forced])];generalize hnc:(Question.appendCap (g.n+m) g.cap e).cut tt=newCap;have hge:g.n+m≤newCap:=by rw[←hnc];simp only[Question.cut];omega
       show vwp P ((typeInfo e).bind fun _=> _) H Q;refine vwp_bind (typeInfo e) _ (vwp_typeInfo hi ?_);show vwp P ((askRoom (newCap*i.bytes)).bind fun _=> _) H Q;refine vwp_bind _ _ ?_;have hroom:∀Q':Unit→View→Prop,Q' () H→vwp P (askRoom (newCap*i.bytes)) H Q':=by
         intro Q' h;unfold askRoom;split
         · exact⟨rfl,h⟩
         · exact h
       refine hroom _ ?_;show vwp P ((Builtin.firstCells sz g.n (.slice a g.n g.cap)).bind fun _=> _) H Q;rw[←hga];refine vwp_bind _ _ (vwp_firstCells hold ?_);show vwp P ((Builtin.firstCells sz m y).bind fun _=> _) H Q;refine vwp_bind _ _ (hyf _ ?_);show vwp P ((zeroValue e).bind fun _=> _) H Q;refine vwp_bind (zeroValue e) _ (vwp_zeroValue (E.ok _ _ hre).zero ?_);rw[zeroCells_eq];intro blk hfresh;have hzz:re.zero.cells.size=sz:=by rw[←Array.length_toList];exact hzs
       let g':Gl e sz:=⟨some blk,g.n+m,newCap,g.l++new,zeroRow re.zero.cells.toList ((newCap-(g.n+m))*re.zero.cells.size),by simp[g.hl,hyn,Nat.add_mul],hge,by rw[zeroRow_len,hzz],fun h=> by cases h⟩
       exact hq g' _ rfl rfl (fun b' hb'=> .inr (by cases hb';exact hfresh)) (fun c hc=> by
         rw[View.put_other];intro e;exact hc blk rfl e.symm) (fun x hx=> by
         simp only[g',Gl.bl,List.mem_singleton] at hx;subst hx;rw[View.put_same];simp)
     · have h3 : Builtin.nextslicecap (g.n+m) g.cap≤4*1000000000:=by
         unfold Builtin.nextslicecap;split
         · omega
         · split
           · omega
           · have gb:∀(rounds c:Nat),c≤2*(g.n+m)+1000→Builtin.growBy (g.n+m) rounds c≤2*(g.n+m)+1000:=by
               intro rounds;induction rounds with
               | zero=> exact fun c hc=> hc
               | succ rounds ih=>
                 intro c hc;unfold Builtin.growBy;split
                 · exact hc
                 · exact ih _ (by omega)
             have:=gb 4 g.cap (by omega);omega
       have h4:Builtin.nextslicecap (g.n+m) g.cap*i.bytes≤4*1000000000*1000:=Nat.mul_le_mul h3 hib;omega
theorem vwp_appendX {t xt e:TypeId}{rt:TypeId}{r re:TyRow}{sz m:Nat}{y:Value}{new:List Value}{g:Gl e sz}{H:View}{Q:Value→View→Prop}(ht:E.ty t=some r)(hds:r.ds=.slice e)(hre:E.ty e=some re)(hsz:re.size=sz)(hzs:re.zero.cells.toList.length=sz)
   (hxt:∃rx,E.ty xt=some rx∧rx.ds=.str) (hby:re.bytes≤1000) (hn:g.n+m≤1000000000) (hb:∀x∈g.bl,H x.1=some x.2) (hyl:∀Q:Nat→View→Prop,Q m H→vwp P (Builtin.lenOf y) H Q) (hyf:∀Q:Array Value→View→Prop,Q ⟨new⟩ H→vwp P (Builtin.firstCells sz m y) H Q) (hyn:new.length=m*sz) (hs:new.all single=true)
   (hq:∀(g':Gl e sz) (H':View),g'.n=g.n+m→g'.l=g.l++new→(∀b,g'.blk=some b→(g.blk=some b∨H b=none))→(∀c,(∀b,g'.blk=some b→b≠c)→H' c=H c)→(∀x∈g'.bl,H' x.1=some x.2)→Q g'.val H'):
   vwp P (Builtin.append_ #[t,xt] rt #[g.val,y]) H Q:=
 vwp_appendXC ht hds hre hsz hzs hxt hby hn hb hyl hyf hyn hs fun g' H' h1 h2 h3 h4 h5=> hq g' H' h1 h2 (fun b hb=> (h3 b hb).imp And.left id) h4 h5
theorem Or.appendS(k:Nat)(T:Bl→Bl){Y:Bl}(hT:∀B,(T B).Perm (Y++B)){cl:Go.Call}{x y:Operand}{t xt e:TypeId}{s:List UInt8}{g:Gl e 1}{r re rx:TyRow}(hop:o.op=.call cl)(hcl:cl.callee=.builtin .append)(hat:cl.argTypes=#[t,xt])(har:cl.args=#[x,y])
   (hx:evR R x=some g.val) (hy:evR R y=some (strV s)) (ht:E.ty t=some r) (hds:r.ds=.slice e) (hre:E.ty e=some re) (hsz:re.size=1) (hzs:Nat.beq re.zero.cells.toList.length 1=true) (hxt:E.ty xt=some rx) (hex:rx.ds=.str) (hby:Nat.ble re.bytes 1000=true)
   (hL:L.drop k=T g.bl) (hm:g.n+s.length≤1000000000) (hd:o.dst=some d) (hn:d<n)
   (hk:∀g':Gl e 1,g'.n=g.n+s.length→g'.l=g.l++bytesV s→K ((d,g'.val)::R) (L.take k++T g'.bl)):Or M n H₀ R L o K:=
 .val hd hn fun H tmps hst hr=> by
   have hLe:L=L.take k++T g.bl:=by rw[←hL,List.take_append_drop]
   unfold execOp;rw[hop];simp only[resolve,hcl,hat,har];have hm':Array.map (evT tmps) #[x,y]=#[g.val,strV s]:=by simp[hr.ev hx,hr.ev hy]
   rw[hm'];have hp:∀B,((L.take k++Y)++B).Perm (L.take k++T B):=fun B=> by rw[List.append_assoc];exact(List.Perm.refl _).append (hT B).symm
   have hst0:=hst;rw[hLe] at hst0;have hst2:SymSt H₀ ((L.take k++Y)++g.bl) H:=hst0.perm (hp g.bl);refine vwp_bind (Builtin.append_ #[t,xt] o.type #[g.val,strV s]) _ ?_;refine vwp_appendX (new:=bytesV s) (m:=s.length) ht hds hre hsz (Nat.eq_of_beq_eq_true hzs) ⟨rx,hxt,hex⟩ (Nat.le_of_ble_eq_true hby) hm (fun z hz=> hst2.at_ z (by simp[hz])) (fun Q hq=> hq) (fun Q hq=> ?_) (by rw[bytesV_len,Nat.mul_one]) (bytesV_single s) fun g' H' h1 h2 h3 h4 h5=> ?_
   · have e:((ByteArray.mk ⟨s⟩).extract 0 s.length).data.map (fun b=> Value.int .u8 (b.toNat:Int))=⟨bytesV s⟩:=by
       rw[bytes_cut];simp[bytesV]
     show Q (((ByteArray.mk ⟨s⟩).extract 0 s.length).data.map (fun b=> Value.int .u8 (b.toNat:Int))) H;rw[e];exact hq
   · exact⟨_,rfl,_,(hst2.grown h3 h4 h5).perm (hp g'.bl).symm,hk g' h1 h2⟩
end
end Go.RL
namespace Go.Proofs.YtldmfjcgjdchcaaGreatDoor
open Go.RL Go.Proofs.Tryz
set_option maxRecDepth 10000
set_option maxHeartbeats 8000000
def dchr(n:Nat):UInt8:=UInt8.ofNat (if n=10 then 48 else 48+n)
theorem fig_at:∀n,1≤n→n≤10→(sgFig.drop (((n:Nat):Int)-1).toNat).take (((n:Nat):Int).toNat-(((n:Nat):Int)-1).toNat)= [dchr n]:=by
 have h:∀n,n≤10→1≤n→(sgFig.drop (((n:Nat):Int)-1).toNat).take (((n:Nat):Int).toNat-(((n:Nat):Int)-1).toNat)= [dchr n]:=by
   intro n h;have:n=0∨n=1∨n=2∨n=3∨n=4∨n=5∨n=6∨n=7∨n=8∨n=9∨n=10:=by omega
   rcases this with rfl|rfl|rfl|rfl|rfl|rfl|rfl|rfl|rfl|rfl|rfl <;> intro h2 <;> first|omega|rfl
 exact fun n h1 h2=> h n h2 h1
theorem dchr_pn {x:UInt8}(h:dig x=true):dchr (pn x)=x:=by
 have h1:48≤x.toNat∧x.toNat<58:=of_decide_eq_true h;have e:(if pn x=10 then 48 else 48+pn x)=x.toNat:=by
   by_cases h2:x.toNat=48
   · simp[pn,h2]
   · have h3:¬x.toNat-48=10:=by omega
     simp only[pn,h2,h3,if_false];omega
 unfold dchr;rw[e,UInt8.ofNat_toNat]
theorem e238:Xt prog 238 Extern.AbiNoEscape.same:=⟨Tryz.f238,func238,by kernel_rfl,by kernel_rfl,by kernel_rfl,by kernel_rfl⟩
theorem ptr_b:prog.underlying 174=some (.pointer 176):=by kernel_rfl
theorem un_ptr:prog.underlying 305=some .unsafePointer:=by kernel_rfl
theorem lies_b:liesAt prog prog.depth 176 (2/prog.cellsOf 176) 0 176 1=true:=by kernel_rfl
section
variable(M:Md prog)(H:View)
theorem printed_c(hG:Sig H)(n:Nat)(h1:1≤n)(h2:n≤10):CallT M 115 #[.int .i64 (n:Nat),.int .i64 1] H (fun v H'=> H.le H'∧v=strV [dchr n]):=by
 obtain⟨f4,gt4,gz4,hG4⟩:=hG;have x1:=fig_at n h1 h2;have hl:sgFig.length=26:=rfl;refine .en func115 ntmps115 fun St c cs hK=> ?_;refine U27 ?_;refine .c rfl rfl rfl rfl (fun H hs=> .h (betweenC_c M H (n:Nat) 1 26 true (decide_eq_true (by omega)))) ?_;refine U11 ?_;refine .x (OpV.sliceS (E:=en) rfl rfl rfl rfl rfl rfl (by omega) (by omega) (by omega)) ?_;refine U2 ?_;refine .rt hK func115 results115 [_] ?_;refine fun H' hs=> ⟨hs.base,?_⟩
 show strV _=_;rw[x1]
theorem shifted_c(n:Nat)(h2:n≤10):CallT M 116 #[.int .i64 (n:Nat),.int .i64 1] H (fun v H'=> H.le H'∧v=.int .i64 1):=by
 refine .en func116 ntmps116 fun St c cs hK=> ?_;refine U29 ?_;refine .rt hK func116 results116 [_] ?_;exact okB
theorem isCode_c(x:Int)(t:Bool)(ht:decide (0≤x∧x≤31)=t):CallT M 114 #[.int .i64 x] H (fun v H'=> H.le H'∧v=.bool t):=by
 refine .en func114 ntmps114 fun St c cs hK=> ?_;refine U7 ?_;refine .c rfl rfl rfl rfl (fun H hs=> .h (betweenC_c M H x 0 31 t ht)) ?_;refine U2 ?_;refine .rt hK func114 results114 [_] ?_;exact okB
theorem noCode_c(x:Int):CallT M 113 #[.int .i64 x] H (fun v H'=> H.le H'∧v=.bool (!decide (0≤x∧x≤31))):=by
 generalize ht:decide (0≤x∧x≤31)=t;refine .en func113 ntmps113 fun St c cs hK=> ?_;refine U7 ?_;refine .c rfl rfl rfl rfl (fun H hs=> .h (isCode_c M H x t ht)) ?_;refine U3 ?_;refine .rt hK func113 results113 [_] ?_;exact okB
theorem areCodes_c(F:Option Addr)(n fc:Nat)(x:Nat→Int)(hF:FreeAt H F n x)(hn:n≤1000000)(hx:∀j,j<n→0≤x j∧x j≤31):CallT M 39 #[.slice F n fc] H (fun v H'=> H.le H'∧v=.bool true):=by
 have hi:=fun(H':View) (h':H.le H')=> ContainsI_c M H' F n fc x (hF.le h') hn (.func (.func 113) #[] #[]) (fun j=> !decide (0≤x j∧x j≤31)) (fun j hj H' _=> .h (noCode_c M H' (x j)));have e:(firstTo (fun j=> !decide (0≤x j∧x j≤31)) n).isSome=false:=by
   rw[(firstTo_none n).2 (fun i hi=> by simp only[decide_eq_true (hx i hi),Bool.not_true])];rfl
 rw[e] at hi;refine .en func39 ntmps39 fun St c cs hK=> ?_;refine U7 ?_;refine .c rfl rfl rfl rfl (fun H hs=> .h (hi H hs.base)) ?_;refine U3 ?_;refine .rt hK func39 results39 [_] ?_;exact okB
def buL(b:Nat)(u:Bool)(g:Gl 5 1):Bl:=(b,true,.cells ⟨[.pointer (if u then some ⟨b,0,none⟩ else none),g.val]⟩ 176 (0,0))::g.bl
theorem copyCheck_c(H₁:View)(b:Nat)(u:Bool)(g:Gl 5 1)(hs₀:SymSt H₁ (buL b u g) H):
   CallT M 171 #[.pointer (some ⟨b,0,none⟩)] H (TurnQ H₁ (fun _:Unit=> .tuple ⟨[]⟩) (fun _=> buL b true g) (fun _=> True)):=by
 cases u with
 | false=>
   refine CallT.enter (vs:= [.pointer (some ⟨b,0,none⟩)]) func171 rfl ntmps171 (Nat.le_of_ble_eq_true rfl) (hs₀) fun St c cs hK=> ?_;refine U6 ?_;refine .x (OpV.ptrNil true rfl rfl rfl ptr_b rfl) ?_;refine U5 ?_;refine .x (OpV.toUn (E:=en) 0 rfl rfl rfl ptr_b un_ptr rfl rfl rfl) ?_;refine .x (OpV.entry rfl rfl rfl rfl e238 (fun H Q hq=> hq)) ?_;refine .x (OpV.fromUn (E:=en) 0 rfl rfl rfl un_ptr ptr_b rfl lies_b) ?_;refine U4 ?_;refine .ov hK func171 results171 [] ?_;exact fun H' hs=> ⟨(),H₁,rfl,View.le_refl _,hs,trivial⟩
 | true=>
   refine CallT.enter (vs:= [.pointer (some ⟨b,0,none⟩)]) func171 rfl ntmps171 (Nat.le_of_ble_eq_true rfl) (hs₀) fun St c cs hK=> ?_;refine U6 ?_;refine .x (OpV.ptrNil false rfl rfl rfl ptr_b rfl) ?_;refine U9 ?_;refine .x (OpV.ptrSame (E:=en) rfl rfl rfl ptr_b rfl rfl) ?_;refine U3 ?_;refine .ov hK func171 results171 [] ?_;exact fun H' hs=> ⟨(),H₁,rfl,View.le_refl _,hs,trivial⟩
def buP(s:List UInt8)(g g':Gl 5 1):Prop:=g'.n=g.n+s.length∧g'.l=g.l++bytesV s
theorem WriteString_c(H₁:View)(b:Nat)(u:Bool)(g:Gl 5 1)(s:List UInt8)(hm:g.n+s.length≤1000000)(hs₀:SymSt H₁ (buL b u g) H):
   CallT M 91 #[.pointer (some ⟨b,0,none⟩),strV s] H (TurnQ H₁ (fun _:Gl 5 1=> .tuple ⟨[.int .i64 (s.length:Nat),.nilIface]⟩) (fun g'=> buL b true g') (buP s g)):=by
 refine CallT.enter (vs:= [.pointer (some ⟨b,0,none⟩),strV s]) func91 rfl ntmps91 (Nat.le_of_ble_eq_true rfl) (hs₀) fun St c cs hK=> ?_;refine U8 ?_;refine .e (Or.callTurn 0 (σ:=Unit) (fun _=> .tuple ⟨[]⟩) (fun _=> buL b true g) (fun _=> True) rfl rfl rfl rfl rfl (by decide) (fun H₁ H₂ hs3 hs4=> .h (copyCheck_c M H₂ H₁ b u g hs4)) (fun _ _=> ?_));refine U9 ?_;refine .e (Or.appendS (E:=en) (g:=g) 1 (fun B=> B) (Y:= []) (fun B=> List.Perm.refl _) rfl rfl rfl rfl rfl rfl rfl rfl rfl rfl rfl rfl rfl rfl rfl (by omega) rfl (by decide) (fun g2 hn2 hl2=> ?_));refine U11 ?_;refine .rt hK func91 results91 [_,_] ?_;exact fun H' hs=> ⟨g2,H₁,rfl,View.le_refl _,hs,hn2,hl2⟩
theorem String_c(H₁:View)(b:Nat)(u:Bool)(g:Gl 5 1)(s:List UInt8)(hne:s≠ [])(hgn:g.n=s.length)(hgl:g.l=bytesV s)(hm:g.n≤1000000)(hs₀:SymSt H₁ (buL b u g) H):
   CallT M 95 #[.pointer (some ⟨b,0,none⟩)] H (TurnQ H₁ (fun _:Unit=> strV s) (fun _=> []) (fun _=> True)):=by
 have hpos:0<s.length:=List.length_pos_iff.2 hne;obtain⟨gb,gn,gc,gl,gj,h1,h2,h3,h4⟩:=g;simp only at hgn hgl hm;subst hgn hgl;cases gb with
 | none=> have:=h4 rfl;omega
 | some gb=>
   have hc0:Nat.beq gc 0=false:=by
     cases gc with
     | zero=> omega
     | succ _=> rfl
   have hlies:liesAt prog prog.depth 5 ((bytesV s++gj).length/prog.cellsOf 5) 0 5 s.length=true:=lies_bytes _ _ (by rw[List.length_append,bytesV_len];omega);have hs1:SymSt H₁ [(b,true,.cells ⟨[.pointer (if u then some ⟨b,0,none⟩ else none),.slice (some ⟨gb,0,none⟩) s.length gc]⟩ 176 (0,0)),(gb,true,.cells ⟨bytesV s++gj⟩ 5 (0,0))] H:=hs₀;refine CallT.enter (vs:= [.pointer (some ⟨b,0,none⟩)]) func95 rfl ntmps95 (Nat.le_of_ble_eq_true rfl) (hs1) fun St c cs hK=> ?_;refine U5 ?_;refine Tc.dr [10] [1] mixed rfl ?_;refine .nw 0 ?_;refine .nw 1 ?_;refine .nw 2 ?_;refine .nw 3 ?_;refine .q 4 rfl (OpV.sliceData rfl rfl rfl rfl rfl hc0) ?_;refine .nw 5 ?_;refine .nw 6 ?_;refine .nw 7 ?_;refine .nw 8 ?_;refine .nn 9 ?_;refine Ta.each [10] (by kernel_rfl) rfl ⟨TaOp.mk rfl rfl rfl (Or.unsafeStr 1 rfl rfl rfl rfl rfl rfl ptr_byte hne (by omega) rfl hlies rfl (by decide) ⟨S2.mk (by exact List.sublist_append_left _ _) (.inl (by kernel_rfl)),?_⟩),trivial⟩;refine .nw 11 ?_;refine .dn ?_;refine .rt hK func95 results95 [_] ?_;exact fun H' hs=> ⟨(),H₁,rfl,View.le_refl _,hs.sub (List.nil_sublist _),trivial⟩
end
theorem pnAt_rng {s:List UInt8}(h:s.all dig=true)(i:Nat):1≤pnAt s i∧pnAt s i≤10:=by
 unfold pnAt;cases e:s[i]? with
 | none=> decide
 | some x=> exact pn_in (List.all_eq_true.1 h x (List.mem_of_getElem? e))
def pastV(l:List Value):List Value:=.int .i64 1::l
theorem rev3 {α:Type}(x y z:α): [z,y,x].Perm [x,y,z]:=List.reverse_perm [x,y,z]
section
variable(M:Md prog)(H:View)
theorem text_c(hG:Sig H)(s:List UInt8)(hs1:s.all dig=true)(hs2:s.length≤12)(hs3:s≠ [])(ma:Option Addr)(mc:Nat)(l:List Value)(hl2:∀(i:Nat) (x:UInt8),s[i]? =some x→l[i]? =some (Value.int .i64 (pn x:Nat))):
   CallT M 40 #[.agg ⟨[.int .i64 0,.int .i64 0,.int .i64 0,.bool false,.slice ma s.length mc]⟩,.agg ⟨pastV l⟩] H (fun v H'=> H.le H'∧v=strV s):=by
 refine .en func40 ntmps40 fun St c cs hK=> ?_;refine U2 ?_;refine .bo fun b2=> ?_;refine .bo fun b3=> ?_;refine U4 ?_;refine .al fun b5=> ?_;refine U17 ?_;refine Tc.perm (L₁:= [(b2,true,.cells ⟨[.int .i64 0,.int .i64 0,.int .i64 0,.bool false,.slice ma s.length mc]⟩ 99 (0,0)),(b3,true,.cells ⟨pastV l⟩ 94 (0,0)),(b5,true,.cells ⟨[.pointer none,.slice none 0 0]⟩ 176 (0,0))]) (rev3 _ _ _) ?_;refine Tc.db (Tc.loopInv (σ:= { x:Nat×Bool×Gl 5 1//x.1≤s.length∧x.2.2.n=x.1∧x.2.2.l=bytesV (s.take x.1) }) (fun x=> ([(3,.pointer (some ⟨b3,0,none⟩)),(5,.pointer (some ⟨b5,0,none⟩)),(6,.int .i64 1),(13,.int .i64 (s.length:Nat)),(14,.int .i64 (x.1.1:Nat))],(b3,true,.cells ⟨pastV l⟩ 94 (0,0))::buL b5 x.1.2.1 x.1.2.2)) (fun x=> s.length-x.1.1) ?_ ⟨(0,false,Gl.nil 5 1),Nat.zero_le _,rfl,rfl⟩);rintro⟨⟨q,u,g⟩,hq,hgn,hgl⟩ ih;simp only at hq hgn hgl;show Tc M St _ _ _ _ [(3,.pointer (some ⟨b3,0,none⟩)),(5,.pointer (some ⟨b5,0,none⟩)),(6,.int .i64 1),(13,.int .i64 (s.length:Nat)),(14,.int .i64 (q:Nat))] ((b3,true,.cells ⟨pastV l⟩ 94 (0,0))::buL b5 u g) _ _;by_cases c1:q=s.length
 · clear ih;subst c1;rw[List.take_length] at hgl;refine U9 ?_;refine .e (Or.callTurn 1 (σ:=Unit) (fun _=> strV s) (fun _=> []) (fun _=> True) rfl rfl rfl rfl rfl (by decide) (fun H₁ H₂ hs4 hs5=> .h (String_c M H₂ H₁ b5 u g s hs3 hgn hgl (by omega) hs5)) (fun _ _=> ?_));refine U2 ?_;refine .rt hK func40 results40 [_] ?_;exact okB
 · have c2:q<s.length:=by omega
   obtain⟨x,hx,hdx,hdec⟩:=dec_dig s q c2 hs1;have hpn:=pn_in hdx;have f1:ldL false 1 (pastV l) (1+((q:Nat):Int).toNat*1)=some (.int .i64 (pn x:Nat)):=by
     show(pastV l)[1+((q:Nat):Int).toNat*1]? =_;rw[Int.toNat_natCast,Nat.mul_one,Nat.add_comm];exact hl2 q x hx
   have hdc:=dchr_pn hdx;have hbt:bytesV (s.take (q+1))=bytesV (s.take q)++bytesV [x]:=by
     obtain⟨hp,rfl⟩:=List.getElem?_eq_some_iff.1 hx;rw[List.take_succ_eq_append_getElem hp,bytesV_app]
   refine U21 ?_;refine .c rfl rfl rfl rfl (fun H hs=> .h (printed_c M H (hG.le hs.base) (pn x) hpn.1 hpn.2)) ?_;refine .e (Or.callTurn 1 (σ:=Gl 5 1) (fun _=> .tuple ⟨[.int .i64 (1:Nat),.nilIface]⟩) (fun g'=> buL b5 true g') (buP [dchr (pn x)] g) rfl rfl rfl rfl rfl (by decide) (fun H₁ H₂ hs4 hs5=> .h (WriteString_c M H₂ H₁ b5 u g [dchr (pn x)] (by simp only[List.length_singleton];omega) hs5)) (fun g2 hg2=> ?_));refine U7 ?_;refine .c rfl rfl rfl rfl (fun H hs=> .h (shifted_c M H (pn x) hpn.2)) ?_;refine U7 ?_;exact Tc.db (ih ⟨(q+1,true,g2),by simp only;omega,by simp only;rw[hg2.1,hgn];rfl,by simp only;rw[hg2.2,hgl,hbt,hdc]⟩ (by simp only;omega))
theorem Decode_c(hG:Sig H)(s:List UInt8)(hs1:s.all dig=true)(hs2:s.length≤12)(hs3:s≠ [])(F:Option Addr)(fc:Nat)(hF:SrcAt H 1 (.slice F s.length fc) s.length (codesL s))(hF2:FreeAt H F s.length (fun i=> (pnAt s i:Nat))):
   CallT M 11 #[.slice F s.length fc,.int .i64 1] H (fun v H'=> H.le H'∧v=.tuple ⟨[strV s,.int .i64 0]⟩):=by
 have hst:stL (pastV (List.replicate 12 (.int .i64 0))) 1 (codesL s)=pastV (codesL s++List.replicate (12-s.length) (.int .i64 0)):=by
   have h1:(codesL s).length=s.length:=by simp[codesL]
   unfold stL pastV;simp only[List.take_succ_cons,List.take_zero,List.cons_append,List.nil_append,h1,Nat.add_comm 1 s.length,List.drop_succ_cons,List.drop_replicate]
 have hpn:=fun j=> pnAt_rng hs1 j;have hcd:∀(i:Nat) (x:UInt8),s[i]? =some x→(codesL s++List.replicate (12-s.length) (.int .i64 0))[i]? =some (Value.int .i64 (pn x:Nat)):=fun i x hx=> by
   rw[List.getElem?_append_left (by simp only[codesL,List.length_map];exact(List.getElem?_eq_some_iff.1 hx).1)];simp only[codesL,List.getElem?_map,hx];rfl
 have hld:ldL true 13 (pastV (codesL s++List.replicate (12-s.length) (.int .i64 0))) 0=some (.agg ⟨pastV (codesL s++List.replicate (12-s.length) (.int .i64 0))⟩):=by
   have h1:(pastV (codesL s++List.replicate (12-s.length) (.int .i64 0))).length=13:=by
     simp only[pastV,codesL,List.length_cons,List.length_append,List.length_map,List.length_replicate];omega
   unfold ldL;simp only[h1,List.drop_zero];rw[List.take_of_length_le (by omega)]
 refine .en func11 ntmps11 fun St c cs hK=> ?_;refine U29 ?_;refine .c rfl rfl rfl rfl (fun H hs=> .h (areCodes_c M H F s.length fc _ (hF2.le hs.base) (by omega) (fun j hj=> by have:=hpn j;exact⟨by show(0:Int)≤((pnAt s j:Nat):Int);omega,by show((pnAt s j:Nat):Int)≤31;omega⟩))) ?_;refine U10 ?_;refine .al fun b6=> ?_;refine U5 ?_;refine .x (OpV.sliceA (E:=en) (l:=0) (h:=12) rfl rfl rfl rfl rfl rfl rfl rfl (by omega) (by omega) (by omega) rfl) ?_;refine U ?_;refine .e (Or.copyAt (E:=en) 0 rfl rfl rfl rfl rfl rfl rfl rfl rfl rfl rfl (fun H hs=> hF.mono hs.base) (by simp[codesL,single]) hs2 (Nat.le_of_ble_eq_true rfl) rfl (by decide) hst ?_);refine U2 ?_;refine Tc.dr [] [] mixed rfl ?_;refine .nn 0 ?_;refine .nn 1 ?_;refine .nn 5 ?_;refine Ta.each [2] (by kernel_rfl) rfl ⟨TaOp.mk rfl rfl rfl (Or.makeSlice (E:=en) (len:=s.length) (cap:=s.length) rfl rfl rfl rfl rfl rfl (Nat.le_refl _) (by omega) rfl rfl (by decide) (fun b30=> ⟨S2.mk (by apply List.Sublist.cons;exact List.Sublist.refl _) (.inr (by apply List.Sublist.cons;exact List.Sublist.refl _)),?_⟩)),trivial⟩;refine .nn 3 ?_;refine .nn 4 ?_;refine .z 6 rfl (OpV.takeCall rfl rfl rfl rfl (fun H hs=> .h (text_c M H (hG.le hs.base) s hs1 hs2 hs3 (some ⟨b30,0,none⟩) s.length _ hcd))) ?_;refine .nn 7 ?_;refine .nn 8 ?_;refine .dn ?_;refine .rt hK func11 results11 [_,_] ?_;exact okB
end
section
variable(M:Md prog)(H:View)
theorem SameWords_c(A B:Option Addr)(n m ac bc:Nat)(x y:Nat→List UInt8)(hA:StrsAt H A n x)(hB:StrsAt H B m y)(hn:n≤100000000)(hm:m≤100000000)(t:Bool)(ht:(decide (n=m)&&allB (fun i=> decide (x i=y i)) n)=t):
   CallT M 59 #[.slice A n ac,.slice B m bc] H (fun v H'=> H.le H'∧v=.bool t):=by
 rw[←ht];clear ht;refine .en func59 ntmps59 fun St c cs hK=> ?_;by_cases c0:n=m
 · subst c0;rw[decide_eq_true rfl,Bool.true_and] at hK;refine U21 ?_;refine Tc.db (Tc.loopInv (σ:= { j:Nat//j≤n∧∀i,i<j→x i=y i }) (fun j=> ([(0,.slice A n ac),(1,.slice B n bc),(5,.int .i64 (j.1:Nat))],[])) (fun j=> n-j.1) ?_ ⟨0,Nat.zero_le _,fun i hi=> by omega⟩);rintro⟨j,hj,hall⟩ ih;show Tc M St _ _ _ _ [(0,.slice A n ac),(1,.slice B n bc),(5,.int .i64 (j:Nat))] [] _ _;by_cases c1:j=n
   · have e:allB (fun i=> decide (x i=y i)) n=true:=(allB_iff n).2 (fun i hi=> decide_eq_true (hall i (by omega)));subst c1;rw[e] at hK;refine U14 ?_;refine .rt hK func59 results59 [_] ?_;exact okB
   · have c2:j<n:=by omega
     obtain h0|⟨ab,ao,fa,gs,gt,gz,rfl,hab,hal⟩:=hA
     · omega
     obtain h0|⟨bb,bo,fb,ks,kt,kz,rfl,hbb,hbl⟩:=hB
     · omega
     have f1:=hal j c2;have f2:=hbl j c2;by_cases c3:x j=y j
     · have f3:RL.strB .neq (x j) (y j)=some (.bool false):=by simp[RL.strB,c3]
       refine U13 ?_;refine Tc.dr [] [] mixed rfl ?_;refine .nn 0 ?_;refine .nn 1 ?_;refine .nn 2 ?_;refine .nn 3 ?_;refine .nn 4 ?_;refine .nn 5 ?_;refine .nn 6 ?_;refine .nn 7 ?_;refine .nn 8 ?_;refine .dn ?_;refine U8 ?_;exact Tc.db (ih ⟨j+1,by omega,fun i hi=> by by_cases e:i=j;exact e▸c3;exact hall i (by omega)⟩ (by simp only;omega))
     · have f3:RL.strB .neq (x j) (y j)=some (.bool true):=by simp[RL.strB,c3]
       have e:allB (fun i=> decide (x i=y i)) n=false:=allB_not c2 (decide_eq_false c3);rw[e] at hK;refine U13 ?_;refine Tc.dr [] [] mixed rfl ?_;refine .nn 0 ?_;refine .nn 1 ?_;refine .nn 2 ?_;refine .nn 3 ?_;refine .nn 4 ?_;refine .nn 5 ?_;refine .nn 6 ?_;refine .nn 7 ?_;refine .nn 8 ?_;refine .dn ?_;refine U5 ?_;refine .rt hK func59 results59 [_] ?_;exact okB
 · rw[decide_eq_false c0,Bool.false_and] at hK;refine U18 ?_;refine .rt hK func59 results59 [_] ?_;exact okB
theorem SameClaims_c(A B:Option Addr)(n m ac bc:Nat)(x y:Nat→Int)(hA:FreeAt H A n x)(hB:FreeAt H B m y)(hn:n≤1000000)(hm:m≤1000000)(t:Bool)(ht:(decide (n=m)&&allB (fun i=> decide (x i=y i)) n)=t):
   CallT M 147 #[.slice A n ac,.slice B m bc] H (fun v H'=> H.le H'∧v=.bool t):=by
 rw[←ht];clear ht;refine .en func147 ntmps147 fun St c cs hK=> ?_;by_cases c0:n=m
 · subst c0;rw[decide_eq_true rfl,Bool.true_and] at hK;refine U21 ?_;refine Tc.db (Tc.loopInv (σ:= { j:Nat//j≤n∧∀i,i<j→x i=y i }) (fun j=> ([(0,.slice A n ac),(1,.slice B n bc),(5,.int .i64 (j.1:Nat))],[])) (fun j=> n-j.1) ?_ ⟨0,Nat.zero_le _,fun i hi=> by omega⟩);rintro⟨j,hj,hall⟩ ih;show Tc M St _ _ _ _ [(0,.slice A n ac),(1,.slice B n bc),(5,.int .i64 (j:Nat))] [] _ _;by_cases c1:j=n
   · have e:allB (fun i=> decide (x i=y i)) n=true:=(allB_iff n).2 (fun i hi=> decide_eq_true (hall i (by omega)));subst c1;rw[e] at hK;refine U14 ?_;refine .rt hK func147 results147 [_] ?_;exact okB
   · have c2:j<n:=by omega
     obtain h0|⟨ab,ao,fa,gs,gt,gz,rfl,hab,hal⟩:=hA
     · omega
     obtain h0|⟨bb,bo,fb,ks,kt,kz,rfl,hbb,hbl⟩:=hB
     · omega
     have f1:=hal j c2;have f2:=hbl j c2;by_cases c3:x j=y j
     · skip
       refine U13 ?_;refine Tc.dr [] [] mixed rfl ?_;refine .nn 0 ?_;refine .nn 1 ?_;refine .nn 2 ?_;refine .nn 3 ?_;refine .nn 4 ?_;refine .nn 5 ?_;refine .nn 6 ?_;refine .nn 7 ?_;refine .nn 8 ?_;refine .dn ?_;refine U8 ?_;exact Tc.db (ih ⟨j+1,by omega,fun i hi=> by by_cases e:i=j;exact e▸c3;exact hall i (by omega)⟩ (by simp only;omega))
     · skip
       have e:allB (fun i=> decide (x i=y i)) n=false:=allB_not c2 (decide_eq_false c3);rw[e] at hK;refine U13 ?_;refine Tc.dr [] [] mixed rfl ?_;refine .nn 0 ?_;refine .nn 1 ?_;refine .nn 2 ?_;refine .nn 3 ?_;refine .nn 4 ?_;refine .nn 5 ?_;refine .nn 6 ?_;refine .nn 7 ?_;refine .nn 8 ?_;refine .dn ?_;refine U5 ?_;refine .rt hK func147 results147 [_] ?_;exact okB
 · rw[decide_eq_false c0,Bool.false_and] at hK;refine U18 ?_;refine .rt hK func147 results147 [_] ?_;exact okB
theorem claims_c(A B:Option Addr)(n m ac bc:Nat)(x y:Nat→Int)(hA:FreeAt H A n x)(hB:FreeAt H B m y)(hn:n≤1000000)(hm:m≤1000000)(t:Bool)(ht:(decide (n=m)&&allB (fun i=> decide (x i=y i)) n)=t):
   CallT M 60 #[.slice A n ac,.slice B m bc] H (fun v H'=> H.le H'∧v=.bool t):=by
 refine .en func60 ntmps60 fun St c cs hK=> ?_;refine U8 ?_;refine .c rfl rfl rfl rfl (fun H hs=> .h (SameClaims_c M H A B n m ac bc x y (hA.le hs.base) (hB.le hs.base) hn hm t ht)) ?_;refine U2 ?_;refine .rt hK func60 results60 [_] ?_;exact okB
end
section
variable(M:Md prog)(H:View)
end
section
variable(M:Md prog)(H:View)
end
section
variable(M:Md prog)(H:View)
end
theorem trainsL_snoc {s:List UInt8}{p:Nat}{x:UInt8}(h:s[p]? =some x)(q:Int):trainsL (s.take (p+1)) q=trainsL (s.take p) q++[.int .i64 (pn x:Nat),.int .i64 (pn x:Nat),.int .i64 q,.int .i64 q]:=by
 obtain⟨hp,rfl⟩:=List.getElem?_eq_some_iff.1 h;unfold trainsL;rw[List.take_succ_eq_append_getElem hp,List.flatMap_append];rfl
section
variable(M:Md prog)(H:View)
theorem Trains_yes(s:List UInt8)(hs1:isNum s=true)(p:Int)(hp:0≤p∧p≤99):
   CallT M 12 #[strV s,.int .i64 p] H (fun v H'=> H.le H'∧∃g:Gl 39 4,v=.tuple ⟨[g.val,.int .i64 0]⟩∧(g.n=s.length∧g.l=trainsL s p)∧∀x∈g.bl,H' x.1=some x.2∧H x.1=none):=by
 have hdg:s.all dig=true∧1≤s.length∧s.length≤3:=by
   have h:=hs1;unfold isNum at h;simp only[Bool.and_eq_true,decide_eq_true_eq] at h;exact⟨h.2,h.1.1,h.1.2⟩
 obtain⟨hdg,hl1,hl3⟩:=hdg;refine .en func12 ntmps12 fun St c cs hK=> ?_;refine U10 ?_;refine .c rfl rfl rfl rfl (fun H hs=> .h (isB (isNumber_c M H s (by omega)) hs1)) ?_;refine U7 ?_;refine .c rfl rfl rfl rfl (fun H hs=> .h (between_is M H p 0 99 true (decide_eq_true hp))) ?_;refine U14 ?_;refine .e (Or.rangeS (E:=en) (s:=⟨⟨s⟩⟩) rfl rfl rfl rfl rfl (by decide) (fun it=> ?_));refine U2 ?_;refine Tc.db (Tc.loopInv (σ:= { x:Nat×Gl 39 4//x.1≤s.length∧x.2.n=x.1∧x.2.l=trainsL (s.take x.1) p }) (fun x=> ([(1,.int .i64 p),(6,x.1.2.val),(18,.pointer (some ⟨it,0,none⟩))],(it,true,.stringIter ⟨⟨s⟩⟩ x.1.1)::x.1.2.bl)) (fun x=> s.length-x.1.1) ?_ ⟨(0,Gl.nil 39 4),Nat.zero_le _,rfl,rfl⟩);rintro⟨⟨q,g⟩,hq,hgn,hgl⟩ ih;simp only at hq hgn hgl;show Tc M St _ _ _ _ [(1,.int .i64 p),(6,g.val),(18,.pointer (some ⟨it,0,none⟩))] ((it,true,.stringIter ⟨⟨s⟩⟩ q)::g.bl) _ _;by_cases c1:q=s.length
 · clear ih;subst c1;have hnp:¬s.length<(ByteArray.mk ⟨s⟩).size:=by show ¬s.length<s.length;omega
   rw[List.take_length] at hgl;refine U2 ?_;refine .e (Or.nextS0 0 rfl rfl rfl hnp rfl (by decide) ?_);refine U11 ?_;refine .rt hK func12 results12 [_,_] ?_;exact fun H' hs=> ⟨hs.base,g,rfl,⟨hgn,hgl⟩,fun x hx=> ⟨hs.at_ x (by simp[hx]),hs.out x (by simp[hx])⟩⟩
 · have c2:q<s.length:=by omega
   obtain⟨x,hx,hdx,hdec⟩:=dec_dig s q c2 hdg;have hps:q<(ByteArray.mk ⟨s⟩).size:=c2;refine U2 ?_;refine .e (Or.nextS 0 rfl rfl rfl hps hdec rfl (by decide) ?_);refine U14 ?_;refine .c rfl rfl rfl rfl (fun H hs=> .h (pulses_c M H x hdx)) ?_;refine .c rfl rfl rfl rfl (fun H hs=> .h (one_c M H (pn x:Nat))) ?_;refine U ?_;refine .c rfl rfl rfl rfl (fun H hs=> .h (one_c M H p)) ?_;refine U ?_;refine .e (.bs (zz:=fun bs=> ?_));refine .e (Or.append (E:=en) (g:=g) (m:=1) (new:= [.int .i64 (pn x:Nat),.int .i64 (pn x:Nat),.int .i64 p,.int .i64 p]) (yv:=.slice (some ⟨bs,0,none⟩) 1 1) 2 rfl rfl rfl rfl rfl rfl rfl rfl rfl rfl rfl rfl rfl rfl rfl (fun H hs=> SrcAt.of (hs.get (i:=0) rfl) (Nat.le_of_ble_eq_true rfl)) rfl (by omega) rfl (by decide) (fun g2 hn2 hl2=> ?_));refine U3 ?_;exact Tc.db (ih ⟨(q+1,g2),by simp only;omega,by simp only;omega,by simp only;rw[hl2,hgl,trainsL_snoc hx]⟩ (by simp only;omega))
end
set_option maxHeartbeats 16000000
section
variable(M:Md prog)(H:View)
theorem Lesser_eq(A B:Option Addr)(n ac bc:Nat)(x y:Nat→Int)(hA:FreeAt H A n x)(hB:FreeAt H B n y)(hn:n≤1000000)(he:∀i,i<n→x i=y i):
   CallT M 148 #[.slice A n ac,.slice B n bc] H (fun v H'=> H.le H'∧v=.bool false):=by
 refine .en func148 ntmps148 fun St c cs hK=> ?_;refine U10 ?_;refine Tc.db (Tc.loopInv (σ:= { j:Nat//j≤n }) (fun j=> ([(0,.slice A n ac),(1,.slice B n bc),(5,.int .i64 (j.1:Nat))],[])) (fun j=> n-j.1) ?_ ⟨0,Nat.zero_le _⟩);rintro⟨j,hj⟩ ih;show Tc M St _ _ _ _ [(0,.slice A n ac),(1,.slice B n bc),(5,.int .i64 (j:Nat))] [] _ _;by_cases c1:j=n
 · subst c1;refine U25 ?_;refine .rt hK func148 results148 [_] ?_;exact okB
 · have c2:j<n:=by omega
   obtain h0|⟨ab,ao,fa,gs,gt,gz,rfl,hab,hal⟩:=hA
   · omega
   obtain h0|⟨bb,bo,fb,ks,kt,kz,rfl,hbb,hbl⟩:=hB
   · omega
   have f1:=hal j c2;have f2:=hbl j c2;have f3:=he j c2;refine U19 ?_;refine Tc.dr [] [] mixed rfl ?_;refine .nn 0 ?_;refine .nn 1 ?_;refine .nn 2 ?_;refine .nn 3 ?_;refine .nn 4 ?_;refine .nn 5 ?_;refine .nn 6 ?_;refine .nn 7 ?_;refine .nn 8 ?_;refine .dn ?_;refine U8 ?_;exact Tc.db (ih ⟨j+1,by omega⟩ (by simp only;omega))
theorem SameNums_eq(A B:Option Addr)(n ac bc:Nat)(x y:Nat→Int)(hA:FreeAt H A n x)(hB:FreeAt H B n y)(hn:n≤1000000)(he:∀i,i<n→x i=y i):
   CallT M 61 #[.slice A n ac,.slice B n bc] H (fun v H'=> H.le H'∧v=.bool true):=by
 refine .en func61 ntmps61 fun St c cs hK=> ?_;refine U8 ?_;refine .c rfl rfl rfl rfl (fun H hs=> .h (Lesser_eq M H A B n ac bc x y (hA.le hs.base) (hB.le hs.base) hn he)) ?_;refine U4 ?_;refine .c rfl rfl rfl rfl (fun H hs=> .h (Lesser_eq M H B A n bc ac y x (hB.le hs.base) (hA.le hs.base) hn (fun i hi=> (he i hi).symm))) ?_;refine U4 ?_;refine .rt hK func61 results61 [_] ?_;exact okB
theorem to_c(a b:Int):CallT M 46 #[.int .i64 a,.int .i64 b] H (fun v H'=> H.le H'∧v=bandV a b):=by
 refine .en func46 ntmps46 fun St c cs hK=> ?_;refine U2 ?_;refine .al fun b4=> ?_;refine U8 ?_;refine .rt hK func46 results46 [_] ?_;exact okB
theorem train_c(p q:Int):CallT M 14 #[.int .i64 p,.int .i64 q] H (fun v H'=> H.le H'∧v=trainV p p q q):=by
 refine .en func14 ntmps14 fun St c cs hK=> ?_;refine U2 ?_;refine .al fun b4=> ?_;refine U5 ?_;refine .c rfl rfl rfl rfl (fun H hs=> .h (to_c M H p p)) ?_;refine U2 ?_;refine .c rfl rfl rfl rfl (fun H hs=> .h (to_c M H q q)) ?_;refine U3 ?_;refine .rt hK func14 results14 [_] ?_;exact okB
end
def exName(i:Nat):List UInt8:= [[97,110,110],[98,111,98],[101,118,101]][i]?.getD []
def exNum(i:Nat):List UInt8:= [[49,50],[49,51],[50]][i]?.getD []
def exNf(i:Nat):Nat:= [1,2,1][i]?.getD 0
def exFree(i j:Nat):Int:=([[1],[2,1],[0]][i]?.getD [])[j]?.getD 0
def exAt(l:List Int)(i:Nat):Int:=l[i]?.getD 0
def bkD:Bk:=⟨5,20,3,exName,exNum,exNf,exFree,2,exAt [1,2],exAt [1,3],exAt [8,6],exAt [8,6]⟩
def bkE:Bk:=⟨5,20,3,exName,exNum,exNf,exFree,3,exAt [1,1,2],exAt [1,1,2],exAt [3,9,9],exAt [6,9,9]⟩
def bkO:Bk:=bkD.now 1 2 2 6 6
def exF(b0 b1 b2:Nat)(i:Nat):Option Addr:=match i with
 | 0=> some ⟨b0,0,none⟩
 | 1=> some ⟨b1,0,none⟩
 | _=> some ⟨b2,0,none⟩
structure LinesAt(H:View)(bl b0 b1 b2:Nat):Prop where
 h:∃f gt gz,H bl=some (f,.cells ⟨[strV [97,110,110],strV [49,50],.slice (some ⟨b0,0,none⟩) 1 1,strV [98,111,98],strV [49,51],.slice (some ⟨b1,0,none⟩) 2 2,strV [101,118,101],strV [50],.slice (some ⟨b2,0,none⟩) 1 1]⟩ gt gz)
 h0:∃f gt gz,H b0=some (f,.cells ⟨[.int .i64 1]⟩ gt gz)
 h1:∃f gt gz,H b1=some (f,.cells ⟨[.int .i64 2,.int .i64 1]⟩ gt gz)
 h2:∃f gt gz,H b2=some (f,.cells ⟨[.int .i64 0]⟩ gt gz)
theorem LinesAt.le {H H':View}{bl b0 b1 b2:Nat}(h:LinesAt H bl b0 b1 b2)(k:H.le H'):LinesAt H' bl b0 b1 b2:=
 ⟨h.h.imp fun _ ⟨gt,gz,e⟩=> ⟨gt,gz,k _ _ e⟩,h.h0.imp fun _ ⟨gt,gz,e⟩=> ⟨gt,gz,k _ _ e⟩,h.h1.imp fun _ ⟨gt,gz,e⟩=> ⟨gt,gz,k _ _ e⟩,h.h2.imp fun _ ⟨gt,gz,e⟩=> ⟨gt,gz,k _ _ e⟩⟩
theorem src_of_cells {H:View}{sz m c b:Nat}{f:Bool}{cs:List Value}{e:TypeId}{fz:Nat×Nat}(hb:H b=some (f,.cells ⟨cs⟩ e fz))(h:cs.length=m*sz):SrcAt H sz (.slice (some ⟨b,0,none⟩) m c) m cs:=
 ⟨⟨_,_,rfl⟩,h,.inr ⟨b,0,c,f,cs,e,fz,rfl,hb,by simp,by simp⟩⟩
theorem ex_book {H:View}{k:Bk}{bl b0 b1 b2 bt:Nat}(hl:LinesAt H bl b0 b1 b2)(hn:k.nl=3)(hname:k.name=exName)(hnum:k.num=exNum)(hnf:k.nf=exNf)(hfr:k.free=exFree){f:Bool}{gt:TypeId}{gz:Nat×Nat}(ht:H bt=some (f,.cells ⟨flatR k.nt (trainL k)⟩ gt gz)):
   BookAt H k (some ⟨bl,0,none⟩) 3 (some ⟨bt,0,none⟩) k.nt (exF b0 b1 b2) exNf:=by
 obtain⟨⟨f1,t1,z1,g1⟩,⟨f2,t2,z2,g2⟩,⟨f3,t3,z3,g3⟩,⟨f4,t4,z4,g4⟩⟩:=hl;refine⟨by omega,Nat.le_refl _,?_,src_of_cells ht (flatR_len (f:=trainL k) (sz:=4) (fun _=> rfl) k.nt),fun i hi=> by rw[hnf];exact Nat.le_refl _,fun i hi=> ?_⟩
 · rw[hn];have e:flatR 3 (rowL k (exF b0 b1 b2) exNf)= [strV [97,110,110],strV [49,50],.slice (some ⟨b0,0,none⟩) 1 1,strV [98,111,98],strV [49,51],.slice (some ⟨b1,0,none⟩) 2 2,strV [101,118,101],strV [50],.slice (some ⟨b2,0,none⟩) 1 1]:=by
     unfold rowL;rw[hname,hnum,hnf];rfl
   rw[e];exact src_of_cells g1 rfl
 · rw[hn] at hi;rw[hnf,hfr];rcases(by omega:i=0∨i=1∨i=2) with rfl|rfl|rfl
   · exact src_of_cells g2 rfl
   · exact src_of_cells g3 rfl
   · exact src_of_cells g4 rfl
section
variable(M:Md prog)(H:View)
theorem lines_ex:CallT M 118 #[] H (fun v H'=> H.le H'∧∃bl b0 b1 b2,v=.slice (some ⟨bl,0,none⟩) 3 3∧LinesAt H' bl b0 b1 b2):=by
 refine .en func118 ntmps118 fun St c cs hK=> ?_;refine U6 ?_;refine .e (.bs (zz:=fun b0=> ?_));refine U ?_;refine .e (.bs (zz:=fun b1=> ?_));refine U ?_;refine .e (.bs (zz:=fun b2=> ?_));refine U ?_;refine .e (.bs (zz:=fun bl=> ?_));refine U2 ?_;refine .rt hK func118 results118 [_] ?_;exact fun H' hs=> ⟨hs.base,bl,b0,b1,b2,rfl,⟨_,_,_,hs.get (i:=0) rfl⟩,⟨_,_,_,hs.get (i:=3) rfl⟩,⟨_,_,_,hs.get (i:=2) rfl⟩,⟨_,_,_,hs.get (i:=1) rfl⟩⟩
theorem Example_c:CallT M 47 #[] H (fun v H'=> H.le H'∧∃A lc B tc F fc,v=bkD.val A lc B tc∧BookAt H' bkD A lc B tc F fc):=by
 refine .en func47 ntmps47 fun St c cs hK=> ?_;refine U2 ?_;refine .al fun b0=> ?_;refine U3 ?_;refine To.callF rfl rfl rfl rfl rfl rfl (by decide) (FnT.h (lines_ex M H)) (fun v H₁ hv=> ?_);obtain⟨hle,bl,c0,c1,c2,rfl,hl⟩:=hv;refine .c rfl rfl rfl rfl (fun H hs=> .h (train_c M H 1 8)) ?_;refine .c rfl rfl rfl rfl (fun H hs=> .h (to_c M H 2 3)) ?_;refine .c rfl rfl rfl rfl (fun H hs=> .h (to_c M H 6 6)) ?_;refine U ?_;refine .e (.bs (zz:=fun bt=> ?_));refine U3 ?_;refine .rt hK func47 results47 [_] ?_;exact fun H' hs=> ⟨View.le_trans hle hs.base,_,_,some ⟨bt,0,none⟩,_,_,_,rfl,ex_book (hl.le hs.base) rfl rfl rfl rfl rfl (hs.get (i:=0) rfl)⟩
theorem joined_c:CallT M 48 #[] H (fun v H'=> H.le H'∧∃A lc B tc F fc,v=bkE.val A lc B tc∧BookAt H' bkE A lc B tc F fc):=by
 refine .en func48 ntmps48 fun St c cs hK=> ?_;refine U2 ?_;refine .al fun b0=> ?_;refine U3 ?_;refine To.callF rfl rfl rfl rfl rfl rfl (by decide) (FnT.h (lines_ex M H)) (fun v H₁ hv=> ?_);obtain⟨hle,bl,c0,c1,c2,rfl,hl⟩:=hv;refine .c rfl rfl rfl rfl (fun H hs=> .h (to_c M H 1 1)) ?_;refine .c rfl rfl rfl rfl (fun H hs=> .h (to_c M H 3 6)) ?_;refine U ?_;refine .c rfl rfl rfl rfl (fun H hs=> .h (train_c M H 1 9)) ?_;refine .c rfl rfl rfl rfl (fun H hs=> .h (train_c M H 2 9)) ?_;refine .e (.bs (zz:=fun bt=> ?_));refine U3 ?_;refine .rt hK func48 results48 [_] ?_;exact fun H' hs=> ⟨View.le_trans hle hs.base,_,_,some ⟨bt,0,none⟩,_,_,_,rfl,ex_book (hl.le hs.base) rfl rfl rfl rfl rfl (hs.get (i:=0) rfl)⟩
end
theorem bkD_al:bkD.alarm=0:=by decide +kernel
theorem bkE_al:bkE.alarm=0:=by decide +kernel
theorem bkO_al:bkO.alarm=0:=by decide +kernel
theorem ex_small {k:Bk}(hn:k.nl=3)(ht:k.nt≤1000)(hnum:k.num=exNum)(hnf:k.nf=exNf):k.small:=⟨by omega,ht,fun i hi=> by
 rw[hn] at hi;rw[hnum,hnf];rcases(by omega:i=0∨i=1∨i=2) with rfl|rfl|rfl <;> decide⟩
end Go.Proofs.YtldmfjcgjdchcaaGreatDoor
namespace Go.Proofs.YtldmfjcgjdchcaaGreatDoor
open Go.RL Go.Proofs.Tryz Go.Conc
set_option maxRecDepth 10000
theorem e198:Ent prog 198 (Extern.Race.marked .releaseMerge):=⟨Tryz.f198,func198,by kernel_rfl,by kernel_rfl,by kernel_rfl,by kernel_rfl⟩
theorem e199:Ent prog 199 disE:=⟨Tryz.f199,func199,by kernel_rfl,by kernel_rfl,by kernel_rfl,by kernel_rfl⟩
theorem e200:Ent prog 200 enE:=⟨Tryz.f200,func200,by kernel_rfl,by kernel_rfl,by kernel_rfl,by kernel_rfl⟩
theorem e201:Ent prog 201 (fun _=> pure (.bool false)):=⟨Tryz.f201,func201,by kernel_rfl,by kernel_rfl,by kernel_rfl,by kernel_rfl⟩
theorem e206:Ent prog 206 (Extern.Race.marked .read):=⟨Tryz.f206,func206,by kernel_rfl,by kernel_rfl,by kernel_rfl,by kernel_rfl⟩
theorem e210:Ent prog 210 Extern.Sync.semrelease:=⟨Tryz.f210,func210,by kernel_rfl,by kernel_rfl,by kernel_rfl,by kernel_rfl⟩
theorem e211:Ent prog 211 (Extern.Race.marked .acquire):=⟨Tryz.f211,func211,by kernel_rfl,by kernel_rfl,by kernel_rfl,by kernel_rfl⟩
theorem e214:Ent prog 214 (Extern.Race.marked .write):=⟨Tryz.f214,func214,by kernel_rfl,by kernel_rfl,by kernel_rfl,by kernel_rfl⟩
theorem e215:Ent prog 215 Extern.Sync.semacquire:=⟨Tryz.f215,func215,by kernel_rfl,by kernel_rfl,by kernel_rfl,by kernel_rfl⟩
theorem e268:Ent prog 268 (Extern.Atomic.update (Op.intArith .add) .u64 true):=⟨Tryz.f268,func268,by kernel_rfl,by kernel_rfl,by kernel_rfl,by kernel_rfl⟩
theorem e269:Ent prog 269 (Extern.Atomic.loadT (.int .u64)):=⟨Tryz.f269,func269,by kernel_rfl,by kernel_rfl,by kernel_rfl,by kernel_rfl⟩
theorem e270:Ent prog 270 Extern.Atomic.storeT:=⟨Tryz.f270,func270,by kernel_rfl,by kernel_rfl,by kernel_rfl,by kernel_rfl⟩
theorem e271:Ent prog 271 (Extern.Atomic.casT (.int .u64)):=⟨Tryz.f271,func271,by kernel_rfl,by kernel_rfl,by kernel_rfl,by kernel_rfl⟩
theorem fo_233_1:fldOff prog 233 1=some 0:=by kernel_rfl
theorem fo_233_2:fldOff prog 233 2=some 1:=by kernel_rfl
theorem fo_230_2:fldOff prog 230 2=some 0:=by kernel_rfl
theorem un_303:prog.underlying 303=some (.pointer 233):=by kernel_rfl
theorem un_305:prog.underlying 305=some .unsafePointer:=by kernel_rfl
theorem un_310:prog.underlying 310=some (.pointer 231):=by kernel_rfl
theorem un_3:prog.underlying 3=some (.int .i64):=by kernel_rfl
theorem un_21:prog.underlying 21=some (.int .i32):=by kernel_rfl
theorem un_231:prog.underlying 231=some (.int .u32):=by kernel_rfl
theorem un_228:prog.underlying 228=some (.int .u64):=by kernel_rfl
theorem sz_233:(prog.info? 233).map (·.size)=some (1+1):=by kernel_rfl
theorem sz_231:(prog.info? 231).map (·.size)=some (0+1):=by kernel_rfl
end Go.Proofs.YtldmfjcgjdchcaaGreatDoor
namespace Go.Proofs.YtldmfjcgjdchcaaGreatDoor
open Go.RL Go.Proofs.Tryz Go.Conc Go.ConcN Go.RL.Au
open Go.ConcR (stA smA)
open Go.ConcM (OsLater)
set_option maxRecDepth 10000
section
variable {main:Bool}{sh:Shp}{J:Goroutine→Prop}{K:Value→(Goroutine→Prop)→Prop}{blk off:Nat}
def KC(main:Bool)(K:Value→(Goroutine→Prop)→Prop):Prop:=∀v J',K v J'→∃sh',Cl prog main sh' J'
theorem add64 {d:Int}(hc:Cl prog main sh J)(hk:KC main K)(h:AtC J 268 [.pointer (some ⟨blk,off,none⟩),.int .u64 d] K):AtC J 205 [.pointer (some ⟨blk,off,none⟩),.int .u64 d] K:=by
 refine InC.at (by exact hc) ca205 (InC.enter (vs:= [.pointer (some ⟨blk,off,none⟩),.int .u64 d]) func205 rfl ntmps205 (Nat.le_of_ble_eq_true rfl) fun c cs hK=> ?_);refine .sq (.rg rfl rfl ?_);refine .g ?_;refine .dn (.sq (.rg rfl rfl ?_));refine .m ?_;refine .x .nk ?_;refine .x (.fa (zz:=fo_230_2)) ?_;refine .m ?_;refine So.callD rfl rfl rfl nofun rfl (.mk' rfl) rfl (h) ?_;intro v J' hv;obtain⟨sh',hc⟩:=hk v J' hv;refine .g ?_;refine .dn ?_;refine Sc.retCode (by exact hc) rfl (Sb.leave (by exact hc) func205 rfl (by exact .inr ⟨_,results205,rfl⟩) ?_);exact hK v J' hv
theorem load64(hc:Cl prog main sh J)(hk:KC main K)(h:AtC J 269 [.pointer (some ⟨blk,off,none⟩)] K):AtC J 207 [.pointer (some ⟨blk,off,none⟩)] K:=by
 refine InC.at (by exact hc) ca207 (InC.enter (vs:= [.pointer (some ⟨blk,off,none⟩)]) func207 rfl ntmps207 (Nat.le_of_ble_eq_true rfl) fun c cs hK=> ?_);refine .sq (.rg rfl rfl ?_);refine .g ?_;refine .dn (.sq (.rg rfl rfl ?_));refine .m ?_;refine .x .nk ?_;refine .x (.fa (zz:=fo_230_2)) ?_;refine So.callD rfl rfl rfl nofun rfl (.mk' rfl) rfl (h) ?_;intro v J' hv;obtain⟨sh',hc⟩:=hk v J' hv;refine .g ?_;refine .dn ?_;refine Sc.retCode (by exact hc) rfl (Sb.leave (by exact hc) func207 rfl (by exact .inr ⟨_,results207,rfl⟩) ?_);exact hK v J' hv
theorem store64 {d:Int}(hc:Cl prog main sh J)(hk:KC main K)(hu:∀v J',K v J'→v=.tuple #[])(h:AtC J 270 [.pointer (some ⟨blk,off,none⟩),.int .u64 d] K):AtC J 208 [.pointer (some ⟨blk,off,none⟩),.int .u64 d] K:=by
 refine InC.at (by exact hc) ca208 (InC.enter (vs:= [.pointer (some ⟨blk,off,none⟩),.int .u64 d]) func208 rfl ntmps208 (Nat.le_of_ble_eq_true rfl) fun c cs hK=> ?_);refine .rg rfl rfl ?_;refine .m ?_;refine .x .nk ?_;refine .x (.fa (zz:=fo_230_2)) ?_;refine .m ?_;refine So.callD rfl rfl rfl nofun rfl (.mk' rfl) rfl (h) ?_;intro v J' hv;obtain⟨sh',hc⟩:=hk v J' hv;refine .dn ?_;refine Sc.over (by exact hc) rfl (Sb.leave (by exact hc) func208 rfl (by exact .inl ⟨results208,rfl⟩) ?_);exact hu v J' hv▸hK v J' hv
theorem cas64 {d e:Int}(hc:Cl prog main sh J)(hk:KC main K)(h:AtC J 271 [.pointer (some ⟨blk,off,none⟩),.int .u64 d,.int .u64 e] K):AtC J 213 [.pointer (some ⟨blk,off,none⟩),.int .u64 d,.int .u64 e] K:=by
 refine InC.at (by exact hc) ca213 (InC.enter (vs:= [.pointer (some ⟨blk,off,none⟩),.int .u64 d,.int .u64 e]) func213 rfl ntmps213 (Nat.le_of_ble_eq_true rfl) fun c cs hK=> ?_);refine .sq (.rg rfl rfl ?_);refine .g ?_;refine .dn (.sq (.rg rfl rfl ?_));refine .m ?_;refine .x .nk ?_;refine .x (.fa (zz:=fo_230_2)) ?_;refine .m ?_;refine .m ?_;refine So.callD rfl rfl rfl nofun rfl (.mk' rfl) rfl (h) ?_;intro v J' hv;obtain⟨sh',hc⟩:=hk v J' hv;refine .g ?_;refine .dn ?_;refine Sc.retCode (by exact hc) rfl (Sb.leave (by exact hc) func213 rfl (by exact .inr ⟨_,results213,rfl⟩) ?_);exact hK v J' hv
end
set_option maxHeartbeats 1000000
theorem g64_hi:∀a:Nat,a<8→∀b:Nat,b<2→bitI .and .u64 ((a*4294967296+b:Nat):Int) 2147483648=0:=by decide +kernel
theorem g64_lo:∀a:Nat,a<8→∀b:Nat,b<2→bitI .and .u64 ((a*4294967296+b:Nat):Int) 2147483647=(b:Int):=by decide +kernel
theorem g64_sh:∀a:Nat,a<8→∀b:Nat,b<2→((a*4294967296+b:Nat):Int).fdiv (2 ^ (min (32:Int).toNat IntKind.u64.bits))=(a:Int):=by decide +kernel
theorem w64_m1:IntKind.u64.wrap (-1)=18446744073709551615:=by decide +kernel
theorem sh64_m1:shiftV .shl .u64 18446744073709551615 32=some (.int .u64 18446744069414584320):=by
 show some (Value.int .u64 (IntKind.u64.wrap (18446744073709551615*2 ^ (min (32:Int).toNat IntKind.u64.bits))))=_;rw[show IntKind.u64.wrap (18446744073709551615*2 ^ (min (32:Int).toNat IntKind.u64.bits))=18446744069414584320 by decide +kernel]
theorem w64_1:IntKind.u64.wrap 1=1:=by decide +kernel
theorem sh64_1:shiftV .shl .u64 1 32=some (.int .u64 4294967296):=by
 show some (Value.int .u64 (IntKind.u64.wrap (1*2 ^ (min (32:Int).toNat IntKind.u64.bits))))=_;rw[show IntKind.u64.wrap (1*2 ^ (min (32:Int).toNat IntKind.u64.bits))=4294967296 by decide +kernel]
theorem w32_m1:IntKind.i32.wrap (-1)= -1:=by decide +kernel
theorem w32_s:∀a:Nat,a<8→IntKind.i32.wrap (a:Int)=(a:Int):=by decide +kernel
theorem wu32_s:∀a:Nat,a<8→IntKind.u32.wrap (a:Int)=(a:Int):=by decide +kernel
section
variable {X:Fk}{κ:Nat}{H:View}{cc:Frame}{cs:List Frame}
theorem shp_wg(X:Fk):∃e c,X.shp X.Wg=some (e,c)∧0<c:=⟨X.tW,2,by simp[Fk.shp],by decide⟩
theorem shp_wg1(X:Fk):∃e c,X.shp X.Wg=some (e,c)∧0+1<c:=⟨X.tW,2,by simp[Fk.shp],by decide⟩
theorem kw {K:Value→Th→Prop}{k:Nat}:KC false (fun v J'=> ∃k' t',k'<k∧K v t'∧J'=Jw prog X κ k' t' H):=fun _ _ ⟨_,_,_,_,h⟩=> ⟨_,h▸Jw.cl0⟩
noncomputable def X103:Code:=cR (cR (cR (cR (bodyOf Tryz.f124))))
abbrev b103:FB:=⟨124,.normal,none⟩
attribute [local irreducible] IntKind.wrap bitI Int.fdiv in
theorem dn_two {a b:Nat}(ha:a<8)(hb:b<2)(hq:¬(a=0∧b=1))(hK:Jq prog 0 (G (cc.finish (.tuple #[])) cs)){R:Rg}
   (hR:AllIn [(0,.pointer (some ⟨X.Wg,0,none⟩)),(1,.int .i64 (-1)),(4,.bool false),(6,.int .u64 ((a*4294967296+b:Nat):Int))] R):
   Sc (Jq prog 1) 117 b103 (cc::cs) R [dcall 200 #[]] [.code X103]:=by
 refine Sc.drop hR ?_;have hsh:=shp_wg X;have f3:=w32_m1;have g1:intBin .and .u64 ((a*4294967296+b:Nat):Int) 2147483648=some (.int .u64 0):=by rw[←g64_hi a (by omega) b (by omega)];rfl
 have g2:intBin .and .u64 ((a*4294967296+b:Nat):Int) 2147483647=some (.int .u64 (b:Int)):=by rw[←g64_lo a (by omega) b (by omega)];rfl
 have g3:shiftV .shr .u64 ((a*4294967296+b:Nat):Int) 32=some (.int .u64 (a:Int)):=by rw[←g64_sh a (by omega) b (by omega)];rfl
 have g4:=w32_s a (by omega);have g5:=wu32_s b (by omega);rcases Nat.eq_zero_or_pos a with hpos|hpos;all_goals rcases Nat.eq_zero_or_pos b with hposb|hposb
 all_goals first
   | (exfalso;omega)
   | (
     refine .sq (.sq (.rg rfl rfl ?_));refine .m ?_;refine .i ?_ (z:=by assumption);refine .i ?_ (z:=neq_f (by omega));refine .m ?_;refine .sk ?_;refine .sk ?_;refine .x .pk ?_;refine .dn (.ff rfl (.sp (.sq ?_)));refine Sc.drop (R':= [(0,.pointer (some ⟨X.Wg,0,none⟩)),(1,.int .i64 (-1)),(4,.bool false),(6,.int .u64 ((a*4294967296+b:Nat):Int))]) ⟨rfl,rfl,rfl,rfl,trivial⟩ ?_;refine .rg rfl rfl ?_;refine .m ?_;refine .x (OpP.shift rfl rfl rfl (by omega) (by assumption)) ?_;refine .x (OpP.conv rfl rfl un_228 un_21 (by assumption)) ?_;refine .g ?_;refine .dn (.sq ?_);refine Sc.drop (R':= [(0,.pointer (some ⟨X.Wg,0,none⟩)),(1,.int .i64 (-1)),(6,.int .u64 ((a*4294967296+b:Nat):Int)),(7,.int .i32 (a:Int))]) ⟨rfl,rfl,rfl,rfl,trivial⟩ ?_;refine .rg rfl rfl ?_;refine .m ?_;refine .i ?_ (z:=by assumption);refine .x (OpP.conv rfl rfl un_228 un_231 (by assumption)) ?_;refine .g ?_;refine .dn (.sq (.sq ?_));refine Sc.drop (R':= [(0,.pointer (some ⟨X.Wg,0,none⟩)),(1,.int .i64 (-1)),(7,.int .i32 (a:Int)),(8,.int .u32 (b:Int))]) ⟨rfl,rfl,rfl,rfl,trivial⟩ ?_;refine .rg rfl rfl ?_;refine .m ?_;refine .m ?_;refine .i ?_ (z:=gtr_f (by omega));refine .x .pk ?_;refine .m ?_;refine .sk ?_;refine .sk ?_;refine .sk ?_;refine .sk ?_;refine .x .pk ?_;refine .dn (.ff rfl (.sp (.sq (.sq ?_))));refine Sc.drop (R':= [(0,.pointer (some ⟨X.Wg,0,none⟩)),(1,.int .i64 (-1)),(7,.int .i32 (a:Int)),(8,.int .u32 (b:Int))]) ⟨rfl,rfl,rfl,rfl,trivial⟩ ?_;refine .rg rfl rfl ?_;refine .m ?_;refine .i ?_ (z:=lss_f (by omega));refine .dn (.ff rfl (.sp (.sq (.sq ?_))));refine Sc.drop (R':= [(0,.pointer (some ⟨X.Wg,0,none⟩)),(1,.int .i64 (-1)),(7,.int .i32 (a:Int)),(8,.int .u32 (b:Int))]) ⟨rfl,rfl,rfl,rfl,trivial⟩ ?_;refine .rg rfl rfl ?_;refine .m ?_;refine .i ?_ (z:=by first|exact neq_t (by omega)|exact neq_f (by omega));refine .m ?_;first|(refine .sk ?_)|(refine .m ?_)
     first|(refine .sk ?_)|(refine .x (.it (zz:=gtr_f (by omega))) ?_)
     refine .x .pk ?_;refine .m ?_;refine .sk ?_;refine .sk ?_;refine .sk ?_;refine .sk ?_;refine .x .pk ?_;refine .dn (.ff rfl (.sp (.sq (.sq ?_))));refine Sc.drop (R':= [(0,.pointer (some ⟨X.Wg,0,none⟩)),(1,.int .i64 (-1)),(7,.int .i32 (a:Int)),(8,.int .u32 (b:Int))]) ⟨rfl,rfl,rfl,rfl,trivial⟩ ?_;refine .rg rfl rfl ?_;refine .m ?_;refine .i ?_ (z:=by first|exact gtr_t (by omega)|exact gtr_f (by omega));refine .m ?_;first|(refine .sk ?_)|(refine .m ?_)
     first|(refine .sk ?_)|(refine .x (.it (zz:=eql_t (by omega))) ?_)
     refine .x .pk ?_;refine .dn (.tt rfl ?_);refine Sc.retCode Jq.cl rfl (Jq.en e200 rfl (Sb.leave Jq.cl func124 rfl (.inl ⟨results124,rfl⟩) hK)))
noncomputable def Y103:Code:=cR (cR (cR (cR (cR (cR (cR X103))))))
attribute [local irreducible] IntKind.wrap bitI Int.fdiv in
theorem dn_last {a b k:Nat}(a0:a=0)(b1:b=1)(hK:Jq prog 0 (G (cc.finish (.tuple #[])) cs)){R:Rg}
   (hR:AllIn [(0,.pointer (some ⟨X.Wg,0,none⟩)),(4,.bool false),(6,.int .u64 ((a*4294967296+b:Nat):Int)),(8,.int .u32 (b:Int))] R):Sc (Jw prog X κ k .d2 H) 117 b103 (cc::cs) R [dcall 200 #[]] [.code Y103]:=by
 refine Sc.drop hR ?_;have hsh:=shp_wg X;have g6:intBin .sub .u32 (b:Int) 1=some (.int .u32 0):=by
   rw[b1];exact congrArg (fun x=> some (Value.int .u32 x)) (show IntKind.u32.wrap (((1:Nat):Int)-1)=0 by decide +kernel)
 have g7:intBin .neq .u64 1 ((a*4294967296+b:Nat):Int)=some (.bool false):=neq_f (by omega);refine .sq (.sq (.rg rfl rfl ?_));refine .m ?_;refine .x .nk ?_;refine .x (.fa (zz:=fo_233_1)) ?_;refine So.callD rfl rfl rfl nofun rfl (.mk' rfl) rfl (load64 Jw.cl0 kw (Jw.d2 e269)) ?_;rintro v J' ⟨k5,t,hk5,⟨rfl,rfl⟩,rfl⟩;refine .m ?_;refine .i ?_ (z:=by assumption);refine .dn (.ff rfl (.sp (.sq ?_)));refine Sc.drop (R':= [(0,.pointer (some ⟨X.Wg,0,none⟩)),(4,.bool false),(6,.int .u64 ((a*4294967296+b:Nat):Int)),(8,.int .u32 (b:Int))]) ⟨rfl,rfl,rfl,rfl,trivial⟩ ?_;refine .rg rfl rfl ?_;refine .m ?_;refine .x .nk ?_;refine .x (.fa (zz:=fo_233_1)) ?_;refine So.callD rfl rfl rfl nofun rfl (.mk' rfl) rfl (store64 Jw.cl0 kw (fun v J' ⟨_,_,_,h,_⟩=> h.1) (Jw.d3 e270)) ?_;rintro v J' ⟨k6,t,hk6,⟨rfl,rfl⟩,rfl⟩;refine .dn (.sq (.sq ?_));refine Sc.drop (R':= [(0,.pointer (some ⟨X.Wg,0,none⟩)),(4,.bool false),(6,.int .u64 ((a*4294967296+b:Nat):Int)),(8,.int .u32 (b:Int))]) ⟨rfl,rfl,rfl,rfl,trivial⟩ ?_;refine .rg rfl rfl ?_;refine .m ?_;refine .dn (.ff rfl (.sp (.bl ?_)));refine Sc.loop (by exact Jw.cl0) ?_;refine .sq (.sq (.rg rfl rfl ?_));refine .m ?_;refine .i ?_ (z:=neq_t (by omega));refine .dn (.tt rfl (.sp (.sq (.bl ?_))));refine Sc.drop (R':= [(0,.pointer (some ⟨X.Wg,0,none⟩)),(4,.bool false),(6,.int .u64 ((a*4294967296+b:Nat):Int)),(8,.int .u32 (b:Int))]) ⟨rfl,rfl,rfl,rfl,trivial⟩ ?_;refine .rg rfl rfl ?_;refine .m ?_;refine .x .nk ?_;refine .x (.fa (zz:=fo_233_2)) ?_;refine So.callD rfl rfl rfl nofun rfl (.mk' rfl) rfl (Jw.d4 (vs:= [.pointer (some ⟨X.Wg,1,none⟩),.bool false,.int .i64 0]) e210 rfl) ?_;rintro v J' ⟨k7,t,hk7,⟨rfl,rfl⟩,rfl⟩;refine So.mono ?_ (fun g=> Jq.jw);refine .dn (.ib ?_);refine Sc.drop (R':= [(0,.pointer (some ⟨X.Wg,0,none⟩)),(4,.bool false),(6,.int .u64 ((a*4294967296+b:Nat):Int)),(8,.int .u32 (b:Int))]) ⟨rfl,rfl,rfl,rfl,trivial⟩ ?_;refine .rg rfl rfl ?_;refine .m ?_;refine .i ?_ (z:=by assumption);refine .g ?_;refine .dn ?_;refine Sc.inLoop (by exact Jq.cl) ?_;refine Sc.drop (R':= [(8,.int .u32 0)]) ⟨rfl,trivial⟩ ?_;refine .sq (.sq (.rg rfl rfl ?_));refine .m ?_;refine .i ?_ (z:=neq_f (by omega));refine .dn (.ff rfl (.xt rfl ?_));refine Sc.over Jq.cl rfl (Jq.en e200 rfl (Sb.leave Jq.cl func124 rfl (.inl ⟨results124,rfl⟩) hK))
attribute [local irreducible] IntKind.wrap bitI Int.fdiv in
theorem dn_one {a b k:Nat}(a0:a=0)(b1:b=1)(hK:Jq prog 0 (G (cc.finish (.tuple #[])) cs)){R:Rg}
   (hR:AllIn [(0,.pointer (some ⟨X.Wg,0,none⟩)),(1,.int .i64 (-1)),(4,.bool false),(6,.int .u64 ((a*4294967296+b:Nat):Int))] R):Sc (Jw prog X κ k .d2 H) 117 b103 (cc::cs) R [dcall 200 #[]] [.code X103]:=by
 refine Sc.drop hR ?_;have hsh:=shp_wg X;have f3:=w32_m1;have g1:intBin .and .u64 ((a*4294967296+b:Nat):Int) 2147483648=some (.int .u64 0):=by rw[←g64_hi a (by omega) b (by omega)];rfl
 have g2:intBin .and .u64 ((a*4294967296+b:Nat):Int) 2147483647=some (.int .u64 (b:Int)):=by rw[←g64_lo a (by omega) b (by omega)];rfl
 have g3:shiftV .shr .u64 ((a*4294967296+b:Nat):Int) 32=some (.int .u64 (a:Int)):=by rw[←g64_sh a (by omega) b (by omega)];rfl
 have g4:=w32_s a (by omega);have g5:=wu32_s b (by omega);refine .sq (.sq (.rg rfl rfl ?_));refine .m ?_;refine .i ?_ (z:=by assumption);refine .i ?_ (z:=neq_f (by omega));refine .m ?_;refine .sk ?_;refine .sk ?_;refine .x .pk ?_;refine .dn (.ff rfl (.sp (.sq ?_)));refine Sc.drop (R':= [(0,.pointer (some ⟨X.Wg,0,none⟩)),(1,.int .i64 (-1)),(4,.bool false),(6,.int .u64 ((a*4294967296+b:Nat):Int))]) ⟨rfl,rfl,rfl,rfl,trivial⟩ ?_;refine .rg rfl rfl ?_;refine .m ?_;refine .x (OpP.shift rfl rfl rfl (by omega) (by assumption)) ?_;refine .x (OpP.conv rfl rfl un_228 un_21 (by assumption)) ?_;refine .g ?_;refine .dn (.sq ?_);refine Sc.drop (R':= [(0,.pointer (some ⟨X.Wg,0,none⟩)),(1,.int .i64 (-1)),(4,.bool false),(6,.int .u64 ((a*4294967296+b:Nat):Int)),(7,.int .i32 (a:Int))]) ⟨rfl,rfl,rfl,rfl,rfl,trivial⟩ ?_;refine .rg rfl rfl ?_;refine .m ?_;refine .i ?_ (z:=by assumption);refine .x (OpP.conv rfl rfl un_228 un_231 (by assumption)) ?_;refine .g ?_;refine .dn (.sq (.sq ?_));refine Sc.drop (R':= [(0,.pointer (some ⟨X.Wg,0,none⟩)),(1,.int .i64 (-1)),(4,.bool false),(6,.int .u64 ((a*4294967296+b:Nat):Int)),(7,.int .i32 (a:Int)),(8,.int .u32 (b:Int))]) ⟨rfl,rfl,rfl,rfl,rfl,rfl,trivial⟩ ?_;refine .rg rfl rfl ?_;refine .m ?_;refine .m ?_;refine .i ?_ (z:=gtr_f (by omega));refine .x .pk ?_;refine .m ?_;refine .sk ?_;refine .sk ?_;refine .sk ?_;refine .sk ?_;refine .x .pk ?_;refine .dn (.ff rfl (.sp (.sq (.sq ?_))));refine Sc.drop (R':= [(0,.pointer (some ⟨X.Wg,0,none⟩)),(1,.int .i64 (-1)),(4,.bool false),(6,.int .u64 ((a*4294967296+b:Nat):Int)),(7,.int .i32 (a:Int)),(8,.int .u32 (b:Int))]) ⟨rfl,rfl,rfl,rfl,rfl,rfl,trivial⟩ ?_;refine .rg rfl rfl ?_;refine .m ?_;refine .i ?_ (z:=lss_f (by omega));refine .dn (.ff rfl (.sp (.sq (.sq ?_))));refine Sc.drop (R':= [(0,.pointer (some ⟨X.Wg,0,none⟩)),(1,.int .i64 (-1)),(4,.bool false),(6,.int .u64 ((a*4294967296+b:Nat):Int)),(7,.int .i32 (a:Int)),(8,.int .u32 (b:Int))]) ⟨rfl,rfl,rfl,rfl,rfl,rfl,trivial⟩ ?_;refine .rg rfl rfl ?_;refine .m ?_;refine .i ?_ (z:=neq_t (by omega));refine .m ?_;refine .m ?_;refine .i ?_ (z:=gtr_f (by omega));refine .x .pk ?_;refine .m ?_;refine .sk ?_;refine .sk ?_;refine .sk ?_;refine .sk ?_;refine .x .pk ?_;refine .dn (.ff rfl (.sp (.sq (.sq ?_))));refine Sc.drop (R':= [(0,.pointer (some ⟨X.Wg,0,none⟩)),(1,.int .i64 (-1)),(4,.bool false),(6,.int .u64 ((a*4294967296+b:Nat):Int)),(7,.int .i32 (a:Int)),(8,.int .u32 (b:Int))]) ⟨rfl,rfl,rfl,rfl,rfl,rfl,trivial⟩ ?_;refine .rg rfl rfl ?_;refine .m ?_;refine .i ?_ (z:=gtr_f (by omega));refine .m ?_;refine .m ?_;refine .i ?_ (z:=eql_f (by omega));refine .x .pk ?_;refine .dn (.ff rfl (.sp ?_));exact dn_last a0 b1 hK ⟨rfl,rfl,rfl,rfl,trivial⟩
attribute [local irreducible] IntKind.wrap bitI Int.fdiv in
theorem donew_c {k:Nat}:AtC (Jw prog X κ k .wr H) 124 [.pointer (some ⟨X.Wg,0,none⟩),.int .i64 (-1)] fun v J'=> v=.tuple #[]∧J'=Jq prog 0:=by
 refine InC.at (by exact Jw.clX rfl) ca124 (InC.enter (vs:= [.pointer (some ⟨X.Wg,0,none⟩),.int .i64 (-1)]) func124 rfl ntmps124 (Nat.le_of_ble_eq_true rfl) fun c cs hK=> ?_);have hsh:=shp_wg X;have f1:=w64_m1;have f2:=sh64_m1;have f3:=w32_m1;refine .sq (.tt rfl (.sq (.sq (.rg rfl rfl ?_))));refine .m ?_;refine .i ?_ (z:=lss_t (by omega));refine .dn (.tt rfl (.rg rfl rfl ?_));refine .m ?_;refine .x (OpP.raw rfl rfl un_303 un_305 sz_233 (by assumption)) ?_;refine So.callD rfl rfl rfl nofun rfl (.mk' rfl) rfl (Jw.wr e198) ?_;rintro v J' ⟨rfl,k1,hk1,rfl⟩;refine .dn (.sq (.rg rfl rfl ?_));refine So.callD rfl rfl rfl nofun rfl (.mk' rfl) rfl (Jw.wk e199) ?_;rintro v J' ⟨k2,t,hk2,⟨rfl,rfl⟩,rfl⟩;refine .dn (.rg rfl rfl ?_);refine So.defer Jw.cl0 (f:=200) (vs:= []) rfl nofun rfl rfl ⟨_,rfl⟩ rfl ?_;refine .dn (.sq ?_);refine Sc.drop (R':= [(0,.pointer (some ⟨X.Wg,0,none⟩)),(1,.int .i64 (-1))]) ⟨rfl,rfl,trivial⟩ ?_;refine .rg rfl rfl ?_;refine .g ?_;refine .dn (.sq (.sq (.rg rfl rfl ?_)));refine So.callD rfl rfl rfl nofun rfl (.mk' rfl) rfl (Jw.wi e201) ?_;rintro v J' ⟨k3,t,hk3,⟨rfl,rfl⟩,rfl⟩;refine .dn (.ff rfl (.sp (.sq ?_)));refine Sc.drop (R':= [(0,.pointer (some ⟨X.Wg,0,none⟩)),(1,.int .i64 (-1)),(4,.bool false)]) ⟨rfl,rfl,rfl,trivial⟩ ?_;refine .rg rfl rfl ?_;refine .m ?_;refine .x .nk ?_;refine .x (.fa (zz:=fo_233_1)) ?_;refine .m ?_;refine .x (OpP.conv rfl rfl un_3 un_228 (by assumption)) ?_;refine .x (OpP.shift rfl rfl rfl (by omega) (by assumption)) ?_;refine So.callD rfl rfl rfl nofun rfl (.mk' rfl) rfl (add64 Jw.cl0 kw (Jw.d1 e268)) ?_;rintro v J' ⟨k4,t,hk4,⟨a,b,ha,hb,rfl,rfl⟩,rfl⟩;by_cases hq:a=0∧b=1
 · rw[if_pos hq];refine .g ?_;refine .dn ?_;exact dn_one hq.1 hq.2 (hK _ _ ⟨rfl,rfl⟩) ⟨rfl,rfl,rfl,rfl,trivial⟩
 · rw[if_neg hq];refine So.mono ?_ (fun g=> Jq.jw);refine .g ?_;refine .dn ?_;exact dn_two (by omega) (by omega) hq (hK _ _ ⟨rfl,rfl⟩) ⟨rfl,rfl,rfl,rfl,trivial⟩
theorem done_d {k n:Nat}{b:FB}{R:Rg}{ds:List Deferred}(hb:b.rd=none)
   (h:Sb (Jq prog 0) n b cs R ds):Sb (Jw prog X κ k .wr H) n b cs R (dcall 126 #[.pointer (some ⟨X.Wg,0,none⟩)]::ds):=by
 refine Sb.enterD (vs:= [.pointer (some ⟨X.Wg,0,none⟩)]) Jw.cl0 hb func126 (by kernel_rfl) rfl ntmps126 (Nat.le_of_ble_eq_true rfl) fun c hm hc=> ?_;refine .rg rfl rfl ?_;refine .m ?_;refine So.callD rfl rfl rfl nofun rfl (.mk' rfl) rfl (donew_c) ?_;rintro v J' ⟨rfl,rfl⟩;refine .dn ?_;refine Sc.over Jq.cl rfl (Sb.leaveD Jq.cl func126 rfl results126 (.inl hm) (hc _ h))
end
section
variable {X:Fk}{H:View}{Fin:Goroutine→Prop}{j:Nat}{cc:Frame}{cs:List Frame}
theorem km {K:Value→Mn→Prop}{k:Nat}:KC true (fun v J'=> ∃k' m',k'<k∧K v m'∧J'=Jm prog X Fin k' m' j H):=fun _ _ ⟨_,_,_,_,h⟩=> ⟨_,h▸Jm.cl⟩
theorem w32_1:IntKind.i32.wrap 1=1:=by decide +kernel
attribute [local irreducible] IntKind.wrap bitI Int.fdiv in
theorem addone_c {k:Nat}:AtC (Jm prog X Fin k .kd j H) 124 [.pointer (some ⟨X.Wg,0,none⟩),.int .i64 1] fun v J'=> v=.tuple #[]∧∃k',J'=Jm prog X Fin k' .go j H:=by
 refine InC.at (by exact Jm.cl) ca124 (InC.enter (vs:= [.pointer (some ⟨X.Wg,0,none⟩),.int .i64 1]) func124 rfl ntmps124 (Nat.le_of_ble_eq_true rfl) fun c cs hK=> ?_);have hsh:=shp_wg1 X;have f1:=w64_1;have f2:=sh64_1;have f3:=w32_1;refine .sq (.tt rfl (.sq (.sq (.rg rfl rfl ?_))));refine .m ?_;refine .i ?_ (z:=lss_f (by omega));refine .dn (.ff rfl (.sp (.sq (.rg rfl rfl ?_))));refine So.callD rfl rfl rfl nofun rfl (.mk' rfl) rfl (Jm.kd e199) ?_;rintro v J' ⟨k2,t,hk2,⟨rfl,rfl⟩,rfl⟩;refine .dn (.rg rfl rfl ?_);refine So.defer Jm.cl (f:=200) (vs:= []) rfl nofun rfl rfl ⟨_,rfl⟩ rfl ?_;refine .dn (.sq (.rg rfl rfl ?_));refine .g ?_;refine .dn (.sq (.sq (.rg rfl rfl ?_)));refine So.callD rfl rfl rfl nofun rfl (.mk' rfl) rfl (Jm.ki e201) ?_;rintro v J' ⟨k3,t,hk3,⟨rfl,rfl⟩,rfl⟩;refine .dn (.ff rfl (.sp (.sq (.rg rfl rfl ?_))));refine .m ?_;refine .x .nk ?_;refine .x (.fa (zz:=fo_233_1)) ?_;refine .m ?_;refine .x (OpP.conv rfl rfl un_3 un_228 (by assumption)) ?_;refine .x (OpP.shift rfl rfl rfl (by omega) (by assumption)) ?_;refine So.callD rfl rfl rfl nofun rfl (.mk' rfl) rfl (add64 Jm.cl km (Jm.ka e268)) ?_;rintro v J' ⟨k4,t,hk4,⟨a,ha,rfl,rfl⟩,rfl⟩;have e0:(((a+1)*4294967296:Nat):Int)=(((a+1)*4294967296+0:Nat):Int):=(congrArg (fun x:Nat=> (x:Int)) (Nat.add_zero _)).symm;have g1:intBin .and .u64 (((a+1)*4294967296:Nat):Int) 2147483648=some (.int .u64 0):=by rw[e0,←g64_hi (a+1) (by omega) 0 (by omega)];rfl
 have g2:intBin .and .u64 (((a+1)*4294967296:Nat):Int) 2147483647=some (.int .u64 0):=by
   have:=g64_lo (a+1) (by omega) 0 (by omega);rw[e0];exact congrArg (fun x=> some (Value.int .u64 x)) this
 have g3:shiftV .shr .u64 (((a+1)*4294967296:Nat):Int) 32=some (.int .u64 ((a+1:Nat):Int)):=by rw[e0,←g64_sh (a+1) (by omega) 0 (by omega)];rfl
 have g4:=w32_s (a+1) (by omega);have g5:IntKind.u32.wrap 0=0:=wu32_s 0 (by omega);have gg:(0:Int)<((a+1:Nat):Int):=by omega
 refine .g ?_;refine .dn ?_;refine Sc.drop (R':= [(0,.pointer (some ⟨X.Wg,0,none⟩)),(1,.int .i64 1),(4,.bool false),(6,.int .u64 (((a+1)*4294967296:Nat):Int))]) ⟨rfl,rfl,rfl,rfl,trivial⟩ ?_;refine .sq (.sq (.rg rfl rfl ?_));refine .m ?_;refine .i ?_ (z:=by assumption);refine .i ?_ (z:=neq_f (by omega));refine .m ?_;refine .sk ?_;refine .sk ?_;refine .x .pk ?_;refine .dn (.ff rfl (.sp (.sq ?_)));refine Sc.drop (R':= [(0,.pointer (some ⟨X.Wg,0,none⟩)),(1,.int .i64 1),(4,.bool false),(6,.int .u64 (((a+1)*4294967296:Nat):Int))]) ⟨rfl,rfl,rfl,rfl,trivial⟩ ?_;refine .rg rfl rfl ?_;refine .m ?_;refine .x (OpP.shift rfl rfl rfl (by omega) (by assumption)) ?_;refine .x (OpP.conv rfl rfl un_228 un_21 (by assumption)) ?_;refine .g ?_;refine .dn ?_;refine Sc.drop (R':= [(0,.pointer (some ⟨X.Wg,0,none⟩)),(1,.int .i64 1),(4,.bool false),(6,.int .u64 (((a+1)*4294967296:Nat):Int)),(7,.int .i32 ((a+1:Nat):Int))]) ⟨rfl,rfl,rfl,rfl,rfl,trivial⟩ ?_;refine .sq (.rg rfl rfl ?_);refine .m ?_;refine .i ?_ (z:=by assumption);refine .x (OpP.conv rfl rfl un_228 un_231 (by assumption)) ?_;refine .g ?_;refine .dn ?_;refine Sc.drop (R':= [(0,.pointer (some ⟨X.Wg,0,none⟩)),(1,.int .i64 1),(4,.bool false),(7,.int .i32 ((a+1:Nat):Int)),(8,.int .u32 0)]) ⟨rfl,rfl,rfl,rfl,rfl,trivial⟩ ?_;refine .sq (.sq ?_);by_cases hz:a=0
 · rw[if_pos hz];have q1:intBin .eql .i32 ((a+1:Nat):Int) 1=some (.bool true):=eql_t (by omega);refine .rg rfl rfl ?_;refine .m ?_;refine .m ?_;refine .i ?_ (z:=gtr_t (by omega));refine .x .pk ?_;refine .m ?_;refine .m ?_;refine .m ?_;refine .x (OpP.conv rfl rfl un_3 un_21 (by assumption)) ?_;refine .i ?_ (z:=by assumption);refine .x .pk ?_;refine .dn (.tt rfl ?_);refine Sc.drop (R':= [(0,.pointer (some ⟨X.Wg,0,none⟩)),(1,.int .i64 1),(4,.bool false),(7,.int .i32 ((a+1:Nat):Int)),(8,.int .u32 0)]) ⟨rfl,rfl,rfl,rfl,rfl,trivial⟩ ?_;refine .rg rfl rfl ?_;refine .m ?_;refine .x .nk ?_;refine .x (.fa (zz:=fo_233_2)) ?_;refine .x (OpP.raw rfl rfl un_310 un_305 sz_231 (by assumption)) ?_;refine So.callD rfl rfl rfl nofun rfl (.mk' rfl) rfl (Jm.kr e206) ?_;rintro v J' ⟨rfl,k5,hk5,rfl⟩;refine .dn ?_;refine Sc.drop (R':= [(0,.pointer (some ⟨X.Wg,0,none⟩)),(1,.int .i64 1),(4,.bool false),(7,.int .i32 ((a+1:Nat):Int)),(8,.int .u32 0)]) ⟨rfl,rfl,rfl,rfl,rfl,trivial⟩ ?_;refine .sq (.sq (.rg rfl rfl ?_));refine .m ?_;refine .i ?_ (z:=lss_f (by omega));refine .dn (.ff rfl (.sp (.sq (.sq (.rg rfl rfl ?_)))));refine .m ?_;refine .i ?_ (z:=neq_f (by omega));refine .m ?_;refine .sk ?_;refine .sk ?_;refine .x .pk ?_;refine .m ?_;refine .sk ?_;refine .sk ?_;refine .sk ?_;refine .sk ?_;refine .x .pk ?_;refine .dn (.ff rfl (.sp (.sq (.sq ?_))));refine Sc.drop (R':= [(0,.pointer (some ⟨X.Wg,0,none⟩)),(1,.int .i64 1),(4,.bool false),(7,.int .i32 ((a+1:Nat):Int)),(8,.int .u32 0)]) ⟨rfl,rfl,rfl,rfl,rfl,trivial⟩ ?_;refine .rg rfl rfl ?_;refine .m ?_;refine .i ?_ (z:=gtr_t (by omega));refine .m ?_;refine .sk ?_;refine .sk ?_;refine .x .pk ?_;refine .dn (.tt rfl ?_);refine Sc.retCode Jm.cl rfl (Jm.ke e200 rfl (fun k' _=> Sb.leave Jm.cl func124 rfl (.inl ⟨results124,rfl⟩) (hK _ _ ⟨rfl,k',rfl⟩)))
 · rw[if_neg hz];have q1:intBin .eql .i32 ((a+1:Nat):Int) 1=some (.bool false):=eql_f (by omega);refine .rg rfl rfl ?_;refine .m ?_;refine .m ?_;refine .i ?_ (z:=gtr_t (by omega));refine .x .pk ?_;refine .m ?_;refine .m ?_;refine .m ?_;refine .x (OpP.conv rfl rfl un_3 un_21 (by assumption)) ?_;refine .i ?_ (z:=by assumption);refine .x .pk ?_;refine .dn (.ff rfl (.sp (.sq (.sq ?_))));refine Sc.drop (R':= [(0,.pointer (some ⟨X.Wg,0,none⟩)),(1,.int .i64 1),(4,.bool false),(7,.int .i32 ((a+1:Nat):Int)),(8,.int .u32 0)]) ⟨rfl,rfl,rfl,rfl,rfl,trivial⟩ ?_;refine .rg rfl rfl ?_;refine .m ?_;refine .i ?_ (z:=lss_f (by omega));refine .dn (.ff rfl (.sp (.sq (.sq (.rg rfl rfl ?_)))));refine .m ?_;refine .i ?_ (z:=neq_f (by omega));refine .m ?_;refine .sk ?_;refine .sk ?_;refine .x .pk ?_;refine .m ?_;refine .sk ?_;refine .sk ?_;refine .sk ?_;refine .sk ?_;refine .x .pk ?_;refine .dn (.ff rfl (.sp (.sq (.sq ?_))));refine Sc.drop (R':= [(0,.pointer (some ⟨X.Wg,0,none⟩)),(1,.int .i64 1),(4,.bool false),(7,.int .i32 ((a+1:Nat):Int)),(8,.int .u32 0)]) ⟨rfl,rfl,rfl,rfl,rfl,trivial⟩ ?_;refine .rg rfl rfl ?_;refine .m ?_;refine .i ?_ (z:=gtr_t (by omega));refine .m ?_;refine .sk ?_;refine .sk ?_;refine .x .pk ?_;refine .dn (.tt rfl ?_);refine Sc.retCode Jm.cl rfl (Jm.ke e200 rfl (fun k' _=> Sb.leave Jm.cl func124 rfl (.inl ⟨results124,rfl⟩) (hK _ _ ⟨rfl,k',rfl⟩)))
end
section
variable {X:Fk}{H:View}{Fin:Goroutine→Prop}{j:Nat}{cc:Frame}{cs:List Frame}
noncomputable def B165:Code:=cB (cB (cR (bodyOf Tryz.f128)))
abbrev b107:FB:=⟨128,.normal,none⟩
attribute [local irreducible] IntKind.wrap bitI Int.fdiv in
theorem wait_head(hc:Cl prog true noSh Fin)(hK:Fin (G (cc.finish (.tuple #[])) cs))(k:Nat):∀R:Rg,AllIn [(0,.pointer (some ⟨X.Wg,0,none⟩))] R→Sc (Jm prog X Fin k .w1 j H) 84 b107 (cc::cs) R [] [.code B165,.inLoop B165,.inBlock 0]:=by
 induction k using Nat.strongRecOn with
 | ind k IH=>
   intro R hR;refine Sc.drop hR ?_;have hsh:=shp_wg X;have hsh1:=shp_wg1 X;refine Sc.block (by first|exact Jm.cl|exact hc) ?_;refine Sc.seq (by first|exact Jm.cl|exact hc) ?_;refine .rg rfl rfl ?_;refine .m ?_;refine .x .nk ?_;refine .x (.fa (zz:=fo_233_1)) ?_;refine So.callD rfl rfl rfl nofun rfl (.mk' rfl) rfl (load64 Jm.cl km (Jm.w1 e269)) ?_;rintro v J' ⟨k1,t,hk1,⟨a,ha,rfl,rfl⟩,rfl⟩;have e0:((a*4294967296:Nat):Int)=((a*4294967296+0:Nat):Int):=(congrArg (fun x:Nat=> (x:Int)) (Nat.add_zero _)).symm;have g1:intBin .and .u64 ((a*4294967296:Nat):Int) 2147483648=some (.int .u64 0):=by rw[e0,←g64_hi a (by omega) 0 (by omega)];rfl
   have g2:intBin .and .u64 ((a*4294967296:Nat):Int) 2147483647=some (.int .u64 0):=by
     have:=g64_lo a (by omega) 0 (by omega);rw[e0];exact congrArg (fun x=> some (Value.int .u64 x)) this
   have g3:shiftV .shr .u64 ((a*4294967296:Nat):Int) 32=some (.int .u64 (a:Int)):=by rw[e0,←g64_sh a (by omega) 0 (by omega)];rfl
   have g4:=w32_s a (by omega);have g5:IntKind.u32.wrap 0=0:=wu32_s 0 (by omega);have g6:intBin .add .u64 ((a*4294967296:Nat):Int) 1=some (.int .u64 ((a*4294967296+1:Nat):Int)):=by
     have h:∀a:Nat,a<8→IntKind.u64.wrap (((a*4294967296:Nat):Int)+1)=((a*4294967296+1:Nat):Int):=by decide +kernel
     exact congrArg (fun x=> some (Value.int .u64 x)) (h a (by omega))
   refine .g ?_;refine .dn ?_;refine Sc.drop (R':= [(0,.pointer (some ⟨X.Wg,0,none⟩)),(2,.int .u64 ((a*4294967296:Nat):Int))]) ⟨rfl,rfl,trivial⟩ ?_;refine Sc.seq (by first|exact Jm.cl|exact hc) ?_;refine .rg rfl rfl ?_;refine .m ?_;refine .x (OpP.shift rfl rfl rfl (by omega) (by assumption)) ?_;refine .x (OpP.conv rfl rfl un_228 un_21 (by assumption)) ?_;refine .g ?_;refine .dn ?_;refine Sc.drop (R':= [(0,.pointer (some ⟨X.Wg,0,none⟩)),(2,.int .u64 ((a*4294967296:Nat):Int)),(3,.int .i32 (a:Int))]) ⟨rfl,rfl,rfl,trivial⟩ ?_;refine Sc.seq (by first|exact Jm.cl|exact hc) ?_;refine .rg rfl rfl ?_;refine .m ?_;refine .i ?_ (z:=by assumption);refine .x (OpP.conv rfl rfl un_228 un_231 (by assumption)) ?_;refine .g ?_;refine .dn ?_;refine Sc.drop (R':= [(0,.pointer (some ⟨X.Wg,0,none⟩)),(2,.int .u64 ((a*4294967296:Nat):Int)),(3,.int .i32 (a:Int)),(4,.int .u32 0)]) ⟨rfl,rfl,rfl,rfl,trivial⟩ ?_;refine Sc.seq (by first|exact Jm.cl|exact hc) ?_;refine Sc.seq (by first|exact Jm.cl|exact hc) ?_;by_cases hz:a=0
   · rw[if_pos hz];have q1:intBin .eql .i32 (a:Int) 0=some (.bool true):=eql_t (by omega);refine .rg rfl rfl ?_;refine .m ?_;refine .i ?_ (z:=by assumption);refine .dn ?_;refine Sc.cond (by first|exact Jm.cl|exact hc) (t:=true) rfl (fun _=> ?_) (fun h=> nomatch h);refine Sc.seq (by first|exact Jm.cl|exact hc) ?_;refine Sc.cond (by first|exact Jm.cl|exact hc) (t:=true) rfl (fun _=> ?_) (fun h=> nomatch h);refine Sc.seq (by first|exact Jm.cl|exact hc) ?_;refine .rg rfl rfl ?_;refine So.callD rfl rfl rfl nofun rfl (.mk' rfl) rfl (Jm.we e200) ?_;rintro v J' ⟨k2,t,hk2,⟨rfl,rfl⟩,rfl⟩;refine .dn (.rg rfl rfl ?_);refine .m ?_;refine .x (OpP.raw rfl rfl un_303 un_305 sz_233 (by assumption)) ?_;refine So.callD rfl rfl rfl nofun rfl (.mk' rfl) rfl (Jm.aq e211) ?_;rintro v J' ⟨rfl,rfl⟩;refine .dn (.sq (.sq (.rg rfl rfl ?_)));refine .m ?_;refine .i ?_ (z:=eql_t (by omega));refine .m ?_;refine .m ?_;refine .i ?_ (z:=by assumption);refine .i ?_ (z:=neq_f (by omega));refine .x .pk ?_;refine .m ?_;refine .sk ?_;refine .sk ?_;refine .x .pk ?_;refine .dn (.ff rfl (.sp ?_));refine Sc.retCode (by exact hc) rfl (Sb.leave (by exact hc) func128 rfl (by exact .inl ⟨results128,rfl⟩) ?_);exact hK
   · rw[if_neg hz];have q1:intBin .eql .i32 (a:Int) 0=some (.bool false):=eql_f (by omega);refine .rg rfl rfl ?_;refine .m ?_;refine .i ?_ (z:=by assumption);refine .dn ?_;refine Sc.cond (by first|exact Jm.cl|exact hc) (t:=false) rfl (fun h=> nomatch h) (fun _=> ?_);refine Sc.skip (by first|exact Jm.cl|exact hc) ?_;refine Sc.seq (by first|exact Jm.cl|exact hc) ?_;refine .rg rfl rfl ?_;refine .m ?_;refine .x .nk ?_;refine .x (.fa (zz:=fo_233_1)) ?_;refine .m ?_;refine .m ?_;refine .i ?_ (z:=by assumption);refine So.callD rfl rfl rfl nofun rfl (.mk' rfl) rfl (cas64 Jm.cl km (Jm.w2 e271)) ?_;rintro v J' ⟨k2,t,hk2,⟨rfl,rfl⟩|⟨rfl,rfl⟩,rfl⟩
     · refine .dn ?_;refine Sc.cond (by first|exact Jm.cl|exact hc) (t:=true) rfl (fun _=> ?_) (fun h=> nomatch h);refine Sc.seq (by first|exact Jm.cl|exact hc) ?_;refine Sc.seq (by first|exact Jm.cl|exact hc) ?_;refine Sc.drop (R':= [(0,.pointer (some ⟨X.Wg,0,none⟩)),(2,.int .u64 ((a*4294967296:Nat):Int)),(4,.int .u32 0)]) ⟨rfl,rfl,rfl,trivial⟩ ?_;refine .rg rfl rfl ?_;refine .m ?_;refine .m ?_;refine .i ?_ (z:=eql_t (by omega));refine .x .pk ?_;refine .dn ?_;refine Sc.cond (by first|exact Jm.cl|exact hc) (t:=true) rfl (fun _=> ?_) (fun h=> nomatch h);refine .rg rfl rfl ?_;refine .m ?_;refine .x .nk ?_;refine .x (.fa (zz:=fo_233_2)) ?_;refine .x (OpP.raw rfl rfl un_310 un_305 sz_231 (by assumption)) ?_;refine So.callD rfl rfl rfl nofun rfl (.mk' rfl) rfl (Jm.wm e214) ?_;rintro v J' ⟨rfl,k3,hk3,rfl⟩;refine .dn ?_;refine Sc.drop (R':= [(0,.pointer (some ⟨X.Wg,0,none⟩)),(2,.int .u64 ((a*4294967296:Nat):Int)),(4,.int .u32 0)]) ⟨rfl,rfl,rfl,trivial⟩ ?_;refine Sc.seq (by first|exact Jm.cl|exact hc) ?_;refine .rg rfl rfl ?_;refine .g ?_;refine .dn ?_;refine Sc.seq (by first|exact Jm.cl|exact hc) ?_;refine Sc.seq (by first|exact Jm.cl|exact hc) ?_;refine .rg rfl rfl ?_;refine .m ?_;refine .i ?_ (z:=by assumption);refine .i ?_ (z:=neq_f (by omega));refine .m ?_;refine .sk ?_;refine .x .pk ?_;refine .dn ?_;refine Sc.cond (by first|exact Jm.cl|exact hc) (t:=false) rfl (fun h=> nomatch h) (fun _=> ?_);refine Sc.skip (by first|exact Jm.cl|exact hc) ?_;refine Sc.seq (by first|exact Jm.cl|exact hc) ?_;refine .rg rfl rfl ?_;refine .m ?_;refine .x .nk ?_;refine .x (.fa (zz:=fo_233_2)) ?_;refine .m ?_;refine So.callD rfl rfl rfl nofun rfl (.mk' rfl) rfl (Jm.ws (vs:= [.pointer (some ⟨X.Wg,1,none⟩),.bool false]) e215 rfl) ?_;rintro v J' ⟨k4,t,hk4,⟨rfl,rfl⟩,rfl⟩;refine .dn ?_;refine Sc.drop (R':= [(0,.pointer (some ⟨X.Wg,0,none⟩))]) ⟨rfl,trivial⟩ ?_;refine Sc.seq (by first|exact Jm.cl|exact hc) ?_;refine .rg rfl rfl ?_;refine .m ?_;refine .x .nk ?_;refine .x (.fa (zz:=fo_233_1)) ?_;refine So.callD rfl rfl rfl nofun rfl (.mk' rfl) rfl (load64 Jm.cl km (Jm.w4 e269)) ?_;rintro v J' ⟨k5,t,hk5,⟨rfl,rfl⟩,rfl⟩;refine .i ?_ (z:=neq_f (by omega));refine .g ?_;refine .dn ?_;refine Sc.seq (by first|exact Jm.cl|exact hc) ?_;refine Sc.cond (by first|exact Jm.cl|exact hc) (t:=true) rfl (fun _=> ?_) (fun h=> nomatch h);refine Sc.seq (by first|exact Jm.cl|exact hc) ?_;refine .rg rfl rfl ?_;refine So.callD rfl rfl rfl nofun rfl (.mk' rfl) rfl (Jm.we e200) ?_;rintro v J' ⟨k6,t,hk6,⟨rfl,rfl⟩,rfl⟩;refine .dn (.rg rfl rfl ?_);refine .m ?_;refine .x (OpP.raw rfl rfl un_303 un_305 sz_233 (by assumption)) ?_;refine So.callD rfl rfl rfl nofun rfl (.mk' rfl) rfl (Jm.aq e211) ?_;rintro v J' ⟨rfl,rfl⟩;refine .dn (.sq (.sq (.rg rfl rfl ?_)));refine .m ?_;refine .dn (.ff rfl (.sp ?_));refine Sc.retCode (by exact hc) rfl (Sb.leave (by exact hc) func128 rfl (by exact .inl ⟨results128,rfl⟩) ?_);exact hK
     · refine .dn ?_;refine Sc.cond (by first|exact Jm.cl|exact hc) (t:=false) rfl (fun h=> nomatch h) (fun _=> ?_);refine Sc.skip (by first|exact Jm.cl|exact hc) ?_;refine Sc.inBlock (by first|exact Jm.cl|exact hc) ?_;refine Sc.inLoop (by exact Jm.cl) ?_;exact IH k2 (by omega) _ ⟨rfl,trivial⟩
theorem wait_c {k:Nat}(hc:Cl prog true noSh Fin):AtC (Jm prog X Fin k .wd j H) 128 [.pointer (some ⟨X.Wg,0,none⟩)] fun v J'=> v=.tuple #[]∧J'=Fin:=by
 refine InC.at (by exact Jm.cl) ca128 (InC.enter (vs:= [.pointer (some ⟨X.Wg,0,none⟩)]) func128 rfl ntmps128 (Nat.le_of_ble_eq_true rfl) fun c cs hK=> ?_);refine Sc.seq (by first|exact Jm.cl|exact hc) ?_;refine Sc.cond (by first|exact Jm.cl|exact hc) (t:=true) rfl (fun _=> ?_) (fun h=> nomatch h);refine .rg rfl rfl ?_;refine So.callD rfl rfl rfl nofun rfl (.mk' rfl) rfl (Jm.wd e199) ?_;rintro v J' ⟨k2,t,hk2,⟨rfl,rfl⟩,rfl⟩;refine .dn ?_;refine Sc.block (by first|exact Jm.cl|exact hc) ?_;refine Sc.loop (by exact Jm.cl) ?_;exact wait_head hc (hK _ _ ⟨rfl,rfl⟩) k2 _ ⟨rfl,trivial⟩
end
end Go.Proofs.YtldmfjcgjdchcaaGreatDoor
namespace Go.RL
open Go.Conc
section
variable {P:Program}{M:Md P}{md:Region.Mode}{ops:Array Oper}{S:Array Bool→View→Prop}{Fin:Array Value→View→Prop}{z:Nat}
theorem waits_not {i j:Nat}{listed:Array Bool}(h:waits md ops i j=true)(hi:i∈Region.ready md ops listed)(hj:j∈Region.ready md ops listed):False:=by
 unfold waits at h;obtain⟨_,o,ho,hall⟩:=mem_ready.1 hj;rw[ho] at h;simp only at h;rw[Array.any_eq_true'] at h;obtain⟨e,he,hb⟩:=h;simp only[Bool.and_eq_true,beq_iff_eq] at hb;have h1:=hall e he hb.1;have h0:=(mem_ready.1 hi).1;rw[hb.2] at h1;rcases Nat.lt_or_ge i listed.size with h'|h'
 · simp[h'] at h0 h1;rw[h0] at h1;cases h1
 · simp[Array.getElem?_eq_none h'] at h1
def AnyL(M:Md P)(md:Region.Mode)(ops:Array Oper)(S:Array Bool→View→Prop)(z:Nat)(Fin:Array Value→View→Prop):Nat→Array Bool→Array Value→View→Prop
 | 0,listed,tmps,H=> ∀H₂,H.le H₂→S listed H₂→Region.ready md ops listed= [z]∧Fin tmps H₂
 | fuel+1,listed,tmps,H=> ∀H₂,H.le H₂→S listed H₂→
   (Region.ready md ops listed≠ [])∧
   ∀i∈Region.ready md ops listed,∀o,ops[i]? =some o→OneT M ops o tmps H₂ fun tmps' H'=> S (listed.setIfInBounds i true) H'∧AnyL M md ops S z Fin fuel (listed.setIfInBounds i true) tmps' H'
theorem AnyL.mono {fuel:Nat}{listed:Array Bool}{tmps:Array Value}{H H':View}(h:AnyL M md ops S z Fin fuel listed tmps H)(k:H.le H'):AnyL M md ops S z Fin fuel listed tmps H':=by
 cases fuel with
 | zero=> exact fun H₂ h2 hS=> h H₂ (View.le_trans k h2) hS
 | succ fuel=> exact fun H₂ h2 hS=> h H₂ (View.le_trans k h2) hS
theorem go_step(fuel t:Nat)(listed:Array Bool):Region.linearise.go md ops (fuel+1) t listed []=match (Region.ready md ops listed)[t%(Region.ready md ops listed).length]? with
   | some i=> i::Region.linearise.go md ops fuel (t/(Region.ready md ops listed).length) (listed.setIfInBounds i true) []
   | none=> []:=by
 rw[Region.linearise.go];show(match (Region.ready md ops listed)[t%(Region.ready md ops listed).length]? with
   | some i=> Region.linearise.go md ops fuel (t/(Region.ready md ops listed).length) (listed.setIfInBounds i true) [i]
   | none=> List.reverse [])=_
 split
 · rename_i i _
   rw[linearise_go_acc];rfl
 · rfl
theorem AnyL.sound {St:View→Goroutine→Prop}{b:FB}{ds:List Deferred}{k:List Item}{cs:List Frame}:∀(fuel t:Nat) (listed:Array Bool) (tmps:Array Value) (H:View),S listed H→
   AnyL M md ops S z (fun tmps H=> T M St H (G (b.at tmps ds (.inRegion ops [z]::k)) cs)) fuel listed tmps H→T M St H (G (b.at tmps ds (.inRegion ops (Region.linearise.go md ops (fuel+1) t listed [])::k)) cs):=by
 intro fuel;induction fuel with
 | zero=>
   intro t listed tmps H hS h;obtain⟨h1,h2⟩:=h H (View.le_refl H) hS;rw[go_step,h1];simp only[List.length_singleton,Nat.mod_one,List.getElem?_cons_zero,Region.linearise.go,List.reverse_nil];exact h2
 | succ fuel ih=>
   intro t listed tmps H hS h;have h:=h H (View.le_refl H) hS;rw[go_step];split
   · rename_i i hi
     have hmem:=List.mem_of_getElem? hi;obtain⟨_,o,ho,_⟩:=mem_ready.1 hmem;exact OneT.sound ho ((h.2 i hmem o ho).mono fun t' H' hk=> ih _ _ _ _ hk.1 hk.2)
   · rename_i hi
     exfalso
     cases hr:Region.ready md ops listed with
     | nil=> exact h.1 hr
     | cons a l=>
       rw[hr] at hi;have:t%(a::l).length<(a::l).length:=Nat.mod_lt _ (by simp);rw[List.getElem?_eq_getElem this] at hi;cases hi
theorem AnyL.first {i:Nat}{oi:Oper}{v:Value}(hi:ops[i]? =some oi)(hsel:∀(j:Nat) (o:Oper) cs b,ops[j]? =some o→o.op≠ .select cs b)(hdi:isDefer oi.op=false)(hz:waits md ops i z=true)(hSi:∀listed H,S (listed.setIfInBounds i true) H↔S listed H):
   ∀ (fuel:Nat) (listed:Array Bool) (tmps:Array Value) (H:View),
     (∀j oj,ops[j]? =some oj→j≠i→listed.getD j true=false→(∀e∈oj.after,Region.binds md e=true→e.on≠i)→oi.apart ops oj=true)→
     closedL md ops listed=true→i∈Region.ready md ops listed→YieldsT M md ops S i oi v tmps→
     AnyL M md ops S z Fin fuel (listed.setIfInBounds i true) (putT tmps oi.dst v) H→AnyL M md ops S z Fin (fuel+1) listed tmps H:=by
 have own:∀(fuel:Nat) (listed:Array Bool) (tmps:Array Value) (H:View),closedL md ops listed=true→i∈Region.ready md ops listed→YieldsT M md ops S i oi v tmps→S listed H→AnyL M md ops S z Fin fuel (listed.setIfInBounds i true) (putT tmps oi.dst v) H→
     OneT M ops oi tmps H fun t H'=> S (listed.setIfInBounds i true) H'∧AnyL M md ops S z Fin fuel (listed.setIfInBounds i true) t H':=by
   intro fuel listed tmps H hcl hrd hy hS h;refine⟨hdi,?_⟩;rcases hy with ⟨hw,hv⟩|⟨hw,rfl⟩
   · rw[if_pos hw];refine(hv listed hcl (mem_ready.1 hrd).1 H hS).run ?_;rintro u H' ⟨rfl,hle,hS'⟩;exact⟨(hSi listed H').2 hS',h.mono hle⟩
   · rw[if_neg (by simp[hw])];exact⟨(hSi listed H).2 hS,h⟩
 intro fuel;induction fuel with
 | zero=>
   intro listed tmps H _ hcl hr hy h H₂ h2 hS;refine⟨fun e=> (by rw[e] at hr;cases hr),fun j hj o ho=> ?_⟩;by_cases hji:j=i
   · subst hji;rw[hi] at ho;cases ho
     exact own 0 listed tmps H₂ hcl hr hy hS (h.mono h2)
   · have:=ready_mono hj hji;rw[(h H₂ h2 ((hSi listed H₂).2 hS)).1,List.mem_singleton] at this;subst this;exact(waits_not hz hr hj).elim
 | succ fuel ih=>
   intro listed tmps H hfree hcl hr hy h H₂ h2 hS;refine⟨fun e=> (by rw[e] at hr;cases hr),fun j hj oj hoj=> ?_⟩;by_cases hji:j=i
   · subst hji;rw[hi] at hoj;cases hoj
     exact own (fuel+1) listed tmps H₂ hcl hr hy hS (h.mono h2)
   · have h1:=(h H₂ h2 ((hSi listed H₂).2 hS)).2 j (ready_mono hj hji) oj hoj;have hcl':=closedL_ready hcl hj;obtain⟨hjun,oj',hoj',hall⟩:=mem_ready.1 hj;rw[hoj] at hoj';cases hoj'
     have hnot:∀e∈oj.after,Region.binds md e=true→e.on≠i:=fun e he hb heq=> by
       have h1:=hall e he hb;have h0:=(mem_ready.1 hr).1;rw[heq] at h1;rcases Nat.lt_or_ge i listed.size with h'|h'
       · simp[h'] at h0 h1;rw[h0] at h1;cases h1
       · simp[Array.getElem?_eq_none h'] at h1
     have hap:=hfree j oj hoj hji hjun hnot;have hfree':∀k ok,ops[k]? =some ok→k≠i→(listed.setIfInBounds j true).getD k true=false→
         (∀e∈ok.after,Region.binds md e=true→e.on≠i)→oi.apart ops ok=true:=fun k ok hk hki hun hno=> by
       refine hfree k ok hk hki ?_ hno;by_cases hjk:j=k
       · subst hjk;exact hjun
       · rw[getD_set_ne true hjk] at hun;exact hun
     refine(h1.back hap (fun cs b=> hsel j oj cs b hoj)).mono ?_;rintro t H' ⟨⟨u,rfl⟩,hS',h3⟩;rw[Array.setIfInBounds_comm _ _ (Ne.symm hji)] at hS';refine⟨(hSi _ H').1 hS',ih (listed.setIfInBounds j true) _ H' hfree' hcl' (ready_mono hr (Ne.symm hji)) (hy.put (fun cs b=> hsel i oi cs b hi) (Oper.apart_spec hap).2.2) ?_⟩;rw[Array.setIfInBounds_comm _ _ hji];exact h3
end
section
variable {P:Program}{M:Md P}{St:View→Goroutine→Prop}{n:Nat}{b:FB}{H₀:View}{cs:List Frame}{R:Rg}{L L':Bl}{ds:List Deferred}{k:List Item}{S:Array Bool→View→Prop}{md:Region.Mode}{ops:Array Oper}{z:Nat}
def Tl(M:Md P)(St:View→Goroutine→Prop)(n:Nat)(b:FB)(H₀:View)(cs:List Frame)(S:Array Bool→View→Prop)(md:Region.Mode)(ops:Array Oper)(z:Nat)(fuel:Nat)(listed:Array Bool)(R:Rg)(L:Bl)(ds:List Deferred)(k:List Item):Prop:=
 ∀H tmps,SymSt H₀ L H→RegOk n R tmps→S listed H→AnyL M md ops S z (fun tmps H=> T M St H (G (b.at tmps ds (.inRegion ops [z]::k)) cs)) fuel listed tmps H
theorem Tl.done {listed:Array Bool}{o:Oper}(hr:Region.ready md ops listed= [z])(ho:ops[z]? =some o)(h:To M St n b H₀ cs (ops.toList.map (fun o:Oper=> o.dst)) R L ds [o] k):Tl M St n b H₀ cs S md ops z 0 listed R L ds k:=fun H tmps hs hr' _ H₂ h2 _=>
 ⟨hr,h ops [z] (fun j=> by
   simp only[List.getElem?_map,Array.getElem?_toList];cases ops[j]? <;> rfl) (by simp[ho]) H₂ tmps (hs.mono h2) hr'⟩
theorem Tl.take(i:Nat){o:Oper}{d:Nat}{v:Value}{fuel:Nat}{listed:Array Bool}(hi:ops[i]? =some o)(hsel:Region.noSelect ops=true)(hr:(Region.ready md ops listed).contains i=true)(hf:Region.free md ops listed i=true)
   (hd:o.dst=some d) (hn:d<n) (hnd:isDefer o.op=false) (hz:waits md ops i z=true) (hcl:closedL md ops listed=true) (hSi:∀listed H,S (listed.setIfInBounds i true) H↔S listed H) (hw:wantB (ops.toList.map (fun o:Oper=> o.dst)) R o=some true)
   (hv:∀listed,closedL md ops listed=true→listed.getD i true=false→∀H tmps,S listed H→RegOk n R tmps→OpVal M o tmps H fun u H'=> u=v∧H.le H'∧S listed H')
   (h:Tl M St n b H₀ cs S md ops z fuel (listed.setIfInBounds i true) ((d,v)::R) L ds k):Tl M St n b H₀ cs S md ops z (fuel+1) listed R L ds k:=fun H tmps hs hr' hS=> by
 refine AnyL.first hi (Region.noSelect_spec hsel) hnd hz hSi fuel listed tmps H (fun j oj hj hne hun hno=> Region.free_spec hi hf j oj hj hne hun hno) hcl (by simpa using hr) (.inl ⟨wantB_ok (fun j=> ?_) hr' hw,fun l hcl hu H hSH=> hv l hcl hu H tmps hSH hr'⟩) ?_
 · simp only[List.getElem?_map,Array.getElem?_toList];cases ops[j]? <;> rfl
 · rw[hd];exact h H _ hs (hr'.put hn v) ((hSi _ H).2 hS)
theorem Tl.tk(i:Nat){o:Oper}{d:Nat}{v:Value}{fuel:Nat}{listed:Array Bool}(hc:takeOk md ops [] listed i=true)(hz:waits md ops i z=true)(hi:ops[i]? =some o)(hd:o.dst=some d)(hn:d<n)(hnd:isDefer o.op=false)(hw:wantB (ops.toList.map (fun o:Oper=> o.dst)) R o=some true)
   (hv:∀H tmps,SymSt H₀ L H→RegOk n R tmps→OpVal M o tmps H fun u H'=> u=v∧H.le H')
   (h:Tl M St n b H₀ cs (fun _=> SymSt H₀ L) md ops z fuel (listed.setIfInBounds i true) ((d,v)::R) L ds k):Tl M St n b H₀ cs (fun _=> SymSt H₀ L) md ops z (fuel+1) listed R L ds k:=by
 simp only[takeOk,Bool.and_eq_true,Bool.not_eq_true'] at hc;obtain⟨⟨⟨⟨⟨hsel,hr⟩,hf⟩,hcl⟩,_⟩,_⟩:=hc;exact .take i hi hsel hr hf hd hn hnd hz hcl (fun _ _=> Iff.rfl) hw (fun _ _ _ H tmps hS hr=> by
   have:=hv H tmps hS hr;unfold OpVal at this ⊢;have fin:∀u H',(u=v∧H.le H')→u=v∧H.le H'∧SymSt H₀ L H':=fun u H' ⟨h1,h2⟩=> ⟨h1,h2,hS.mono h2⟩
   refine vwp_mono _ (fun nx H' hn=> ?_) this;cases nx <;> first
     | exact hn.elim
     | exact fin _ _ hn
     | exact CallT.mono hn fin
     | exact GoT.mono hn fin) h
theorem Tc.dl(z:Nat){id:Nat}{fuel:Nat}(hm:P.follows .mixedOrders=true)(hf:ops.size=fuel+1)(h:Tl M St n b H₀ cs (fun _=> SymSt H₀ L) .any ops z fuel (Array.replicate (fuel+1) false) R L ds k):
   Tc M St n b H₀ cs R L ds (.code (.region id ops true)::k):=fun H tmps hs hr=> by
 refine .region_draw fun t=> ?_;simp only[Region.schedule,hm,Bool.true_or,if_true];have h1:=(h H tmps hs hr hs).sound _ t _ _ _ hs;unfold Region.linearise;rw[hf];exact h1
end
end Go.RL
namespace Go.RL
open Go.Conc Go.ConcN Go.RL.Au
open Go.ConcR (stA smA mk)
open Go.ConcM (muA msA OsLater)
section
variable {P:Program}{X:Fk}{κ:Nat}
theorem OpP.makeFunc {n:Nat}{sh:Shp}{R:Rg}{o:Oper}{f:Fn}{first caps:Array Operand}{vs ws:List Value}(hop:o.op=.makeFunc f first caps)(h1:evRs R first.toList=some vs)(h2:evRs R caps.toList=some ws):OpP P sh n R o (.func f vs.toArray ws.toArray):=fun tmps hr=> by
 unfold execOp;rw[hop];show Next.value _=_;have e1:first.map (evT tmps)=vs.toArray:=by
   rw[←hr.evs h1,List.map_toArray.symm]
 have e2:caps.map (evT tmps)=ws.toArray:=by
   rw[←hr.evs h2,List.map_toArray.symm]
 rw[e1,e2]
theorem T.none {M:Md P}{St:View→Goroutine→Prop}{C:Nat}{H:View}{g:Goroutine}(hok:∀w,M.ok w→C<w.heap.size)(hph:∀H g Po,¬M.Ph H g Po)(h:T M St H g):H C=Option.none→T M (fun H' g'=> H' C=Option.none∧St H' g') H g:=
 h (fun H g=> H C=Option.none→T M (fun H' g'=> H' C=Option.none∧St H' g') H g) (fun _ _ hs hc=> .stop ⟨hc,hs⟩) (fun H g hs hc=> .step ⟨hs.1,fun w hw ho=> by
   obtain⟨g',w',es,H',h1,h2,h3⟩:=hs.2 w hw ho;refine⟨g',w',es,H',h1,h2,h3 ?_⟩;cases hx:H' C with
   | none=> rfl
   | some x=>
     obtain⟨f,o⟩:=x;rcases h2.ext _ _ _ hx with ⟨o',ho'⟩|⟨_,hle⟩
     · rw[hc] at ho';cases ho'
     · have:=hok w ho;omega⟩) (fun _ _ _ hp=> (hph _ _ _ hp).elim)
theorem T.none' {main:Bool}{St:View→Goroutine→Prop}{H:View}{g:Goroutine}(hc:H X.C=Option.none)(h:T (Mw P main X.ok) (fun H' g'=> H' X.C=Option.none→T (Mw P main X.ok) St H' g') H g):T (Mw P main X.ok) St H g:=
 (T.none (M:=Mw P main X.ok) (C:=X.C) (fun _ (h:X.ok _)=> h.1) (fun _ _ _ h=> h) h hc).bind fun _ _ ⟨h1,h2⟩=> h2 h1
theorem Sc.none {main:Bool}{St:View→Goroutine→Prop}{H:View}{n:Nat}{b:FB}{cs:List Frame}{R:Rg}{ds:List Deferred}{kk:List Item}(hc:H X.C=Option.none)
   (h:Sc (T (Mw P main X.ok) (fun H' g'=> H' X.C=Option.none→T (Mw P main X.ok) St H' g') H) n b cs R ds kk):Sc (T (Mw P main X.ok) St H) n b cs R ds kk:=fun tmps hr=> T.none' hc (h tmps hr)
theorem Sc.stopNone {main:Bool}{St:View→Goroutine→Prop}{H:View}{n:Nat}{b:FB}{cs:List Frame}{R:Rg}{ds:List Deferred}{kk:List Item}
   (h:H X.C=Option.none→Sc (T (Mw P main X.ok) St H) n b cs R ds kk):Sc (T (Mw P main X.ok) (fun H' g'=> H' X.C=Option.none→T (Mw P main X.ok) St H' g') H) n b cs R ds kk:=fun tmps hr=> .stop fun hc=> h hc tmps hr
theorem Sc.mono {J J':Goroutine→Prop}{n:Nat}{b:FB}{cs:List Frame}{R:Rg}{ds:List Deferred}{kk:List Item}(h:Sc J n b cs R ds kk)(hj:∀g,J g→J' g):Sc J' n b cs R ds kk:=fun tmps hr=> hj _ (h tmps hr)
end
end Go.RL
namespace Go.Proofs.YtldmfjcgjdchcaaGreatDoor
open Go.RL Go.Proofs.Tryz Go.Conc Go.ConcN Go.RL.Au
open Go.ConcR (stA smA)
set_option maxRecDepth 10000
set_option maxHeartbeats 4000000
def leftL(k:Bk)(D:Nat→Bool):List Value:=(List.range k.nt).map fun i=> .int .i64 (if D i then((k.left i:Nat):Int) else 0)
def GIl(k:Bk)(D:Nat→Bool)(o:Obj):Prop:=o=.cells ⟨leftL k D⟩ 3 (0,0)
theorem leftL_len(k:Bk)(D:Nat→Bool):(leftL k D).length=k.nt:=by simp[leftL]
theorem leftL_set(k:Bk)(D:Nat→Bool)(κ:Nat):(leftL k D).set κ (.int .i64 ((k.left κ:Nat):Int))=leftL k (also D κ):=by
 apply List.ext_getElem?
 intro i;unfold leftL also;rw[List.getElem?_set];by_cases e:κ=i
 · subst e;rw[if_pos rfl];by_cases h:κ<k.nt
   · rw[if_pos (by simpa using h),List.getElem?_map,List.getElem?_range h];simp
   · rw[if_neg (by simpa using h),List.getElem?_eq_none (by simp;omega)]
 · rw[if_neg e,List.getElem?_map,List.getElem?_map];by_cases h:i<k.nt
   · rw[List.getElem?_range h];have h2:¬i=κ:=fun h=> e h.symm;simp[h2]
   · rw[List.getElem?_eq_none (by simp;omega)];rfl
structure WkAt(X:Fk)(k:Bk)(H:View)(κ b5 b8 b6:Nat)(A:Option Addr)(lc:Nat)(B:Option Addr)(tc:Nat)(F:Nat→Option Addr)(fc:Nat→Nat):Prop where
 bk:BookAt H k A lc B tc F fc
 nl:k.nl≤1000
 nf:∀i,i<k.nl→k.nf i≤1000
 ok:k.trainsOk
 nt:k.nt≤6
 gap:0≤k.gap∧k.gap≤99
 give:0≤k.give∧k.give≤99
 h5:∃f,H b5=some (f,.cells ⟨(k.val A lc B tc).cells.toList⟩ 166 (0,0))
 h8:∃f,H b8=some (f,.cells ⟨[.int .i64 (κ:Nat)]⟩ 3 (0,0))
 h6:∃f,H b6=some (f,.cells ⟨[.slice (some ⟨X.C,0,none⟩) k.nt k.nt]⟩ 24 (0,0))
 kn:κ<k.nt
 GI:X.GI=GIl k
def wkVs(X:Fk)(b5 b8 b6:Nat):List Value:= [.pointer (some ⟨X.Wg,0,none⟩),.pointer (some ⟨b5,0,none⟩),.pointer (some ⟨b8,0,none⟩),.pointer (some ⟨b6,0,none⟩)]
section
variable {X:Fk}{bk:Bk}{H:View}{κ b5 b8 b6:Nat}{A:Option Addr}{lc:Nat}{B:Option Addr}{tc:Nat}{F:Nat→Option Addr}{fc:Nat→Nat}
theorem worker_c(w:WkAt X bk H κ b5 b8 b6 A lc B tc F fc)(k:Nat):
   Jw prog X κ k .pw H (Go.Conc.born prog { target:=.fn (.func 125) (wkVs X b5 b8 b6).toArray,args:=#[] }):=by
 obtain⟨hbk,hnl,hnf,hok,hnt,hgap,hgive,⟨f5,h5⟩,⟨f8,h8⟩,⟨f6,h6⟩,hκ,hGI⟩:=w;refine Cl.born (vs:=wkVs X b5 b8 b6) Jw.cl0 func125 (by kernel_rfl) rfl ntmps125 (Nat.le_of_ble_eq_true rfl) (by simp) ?_;unfold wkVs;refine .sq (.rg rfl rfl ?_);refine So.defer Jw.cl0 (f:=126) (vs:= [.pointer (some ⟨X.Wg,0,none⟩)]) rfl nofun rfl rfl ⟨_,rfl⟩ rfl ?_;refine .dn ?_;refine Sc.mono ?_ (fun g hg=> Jw.ofT rfl hg);refine Sc.ofTc (SymSt.nil H) ?_;refine Tc.dl 6 mixed rfl ?_;refine Tl.tk 0 (by kernel_rfl) (by kernel_rfl) rfl rfl (by decide) rfl rfl (OpV.take (OpV.load₀ (E:=en) rfl rfl h6 rfl rfl)) ?_;refine Tl.tk 1 (by kernel_rfl) (by kernel_rfl) rfl rfl (by decide) rfl rfl (OpV.take (OpV.load₀ (E:=en) rfl rfl h8 rfl rfl)) ?_;refine Tl.tk 2 (by kernel_rfl) (by kernel_rfl) rfl rfl (by decide) rfl rfl (OpV.take (OpV.load₀ (E:=en) rfl rfl h5 rfl rfl)) ?_;refine Tl.tk 3 (by kernel_rfl) (by kernel_rfl) rfl rfl (by decide) rfl rfl (OpV.take (OpV.load₀ (E:=en) rfl rfl h8 rfl rfl)) ?_;refine Tl.tk 4 (by kernel_rfl) (by kernel_rfl) rfl rfl (by decide) rfl rfl (OpV.takeCall rfl rfl rfl rfl (fun H hs=> .f ca127 rfl (left_c _ H bk A lc B tc F fc (hbk.le hs.base) hnl hnf hok hnt hgap hgive κ hκ))) ?_;refine Tl.tk 5 (by kernel_rfl) (by kernel_rfl) rfl rfl (by decide) rfl rfl (OpV.take .ia) ?_;refine Tl.done (by kernel_rfl) rfl ?_;refine To.ofSo (fun H1 hs=> ?_);refine So.mono ?_ (fun g hg=> Jw.toT rfl hg);have eoff:0+((κ:Nat):Int).toNat*1=κ:=by rw[Int.toNat_natCast];omega
 refine So.own (z:=((bk.left κ:Nat):Int)) (ik:=.i64) rfl rfl rfl ?_ rfl (by kernel_rfl) ?_ ?_
 · show some (Value.pointer (some ⟨X.C,0+((κ:Nat):Int).toNat*1,none⟩))=_;rw[eoff]
 · intro D o _ hGo;rw[hGI] at hGo ⊢;have hGo':o=.cells ⟨leftL bk D⟩ 3 (0,0):=hGo;subst hGo';refine⟨⟨leftL bk D⟩,3,rfl,by simp only[List.size_toArray,leftL_len];exact hκ,?_⟩;show Obj.cells _ 3 (0,0)=.cells ⟨leftL bk (also D κ)⟩ 3 (0,0);rw[←leftL_set];simp
 · exact fun k' _=> So.done Jw.cl0 (Sc.over Jw.cl0 rfl (done_d rfl (Sb.leaveD Jq.cl func125 rfl results125 (.inr rfl) Jq.bot)))
end
set_option maxHeartbeats 16000000
theorem ro_some {H:View}{b:Nat}{f:Bool}{o:Obj}(h:H b=some (f,o)):ro H b=some (false,o):=by simp[ro,h]
theorem ro_none {H:View}{b:Nat}(h:H b=none):ro H b=none:=by simp[ro,h]
def Keeps(H H':View):Prop:=∀b f o,H b=some (f,o)→∃f',H' b=some (f',o)
theorem src_of {H H':View}{sz m:Nat}{y:Value}{l:List Value}(h:SrcAt H sz y m l)(k:Keeps H H'):SrcAt H' sz y m l:=by
 obtain⟨h1,h2,h3⟩:=h;refine⟨h1,h2,h3.imp id ?_⟩;rintro⟨b,off,c,f,cs,e,fz,h4,h5,h6,h7⟩;obtain⟨f',h5'⟩:=k _ _ _ h5;exact⟨b,off,c,f',cs,e,fz,h4,h5',h6,h7⟩
theorem BookAt.of {H H':View}{k:Bk}{A:Option Addr}{lc:Nat}{B:Option Addr}{tc:Nat}{F:Nat→Option Addr}{fc:Nat→Nat}(h:BookAt H k A lc B tc F fc)(hk:Keeps H H'):BookAt H' k A lc B tc F fc:=
 ⟨h.hlc,h.htc,src_of h.rows hk,src_of h.trains hk,h.hfc,fun i hi=> src_of (h.free i hi) hk⟩
structure StAt(X:Fk)(k:Bk)(H:View)(b5 b6:Nat)(A:Option Addr)(lc:Nat)(B:Option Addr)(tc:Nat)(F:Nat→Option Addr)(fc:Nat→Nat):Prop where
 bk:BookAt H k A lc B tc F fc
 sm:k.small
 al:k.alarm=0
 n:X.n=k.nt
 h5:∃f,H b5=some (f,.cells ⟨(k.val A lc B tc).cells.toList⟩ 166 (0,0))
 h6:∃f,H b6=some (f,.cells ⟨[.slice (some ⟨X.C,0,none⟩) k.nt k.nt]⟩ 24 (0,0))
 C0:H X.C=none
 GI:X.GI=GIl k
theorem StAt.of {X:Fk}{k:Bk}{H H':View}{b5 b6:Nat}{A:Option Addr}{lc:Nat}{B:Option Addr}{tc:Nat}{F:Nat→Option Addr}{fc:Nat→Nat}(h:StAt X k H b5 b6 A lc B tc F fc)(hk:Keeps H H')(h0:H' X.C=none):StAt X k H' b5 b6 A lc B tc F fc:=
 ⟨h.bk.of hk,h.sm,h.al,h.n,let ⟨_,g⟩:=h.h5;hk _ _ _ g,let ⟨_,g⟩:=h.h6;hk _ _ _ g,h0,h.GI⟩
abbrev b33:FB:=⟨51,.normal,none⟩
noncomputable def L33:Code:=cR (cL (cR (cR (cR (cR (cR (bodyOf Tryz.f51)))))))
noncomputable def B33:Code:=cB (cB L33)
noncomputable def T33:Code:=cR (cR (cR (cR (cR (cR (bodyOf Tryz.f51))))))
section
variable {X:Fk}{k:Bk}{b1 b5 b6:Nat}{A:Option Addr}{lc:Nat}{B:Option Addr}{tc:Nat}{F:Nat→Option Addr}{fc:Nat→Nat}{Fin:Goroutine→Prop}{cs:List Frame}
def rgS(X:Fk)(k:Bk)(b1 b5 b6 j:Nat):Rg:= [(1,.pointer (some ⟨b1,0,none⟩)),(5,.pointer (some ⟨b5,0,none⟩)),(6,.pointer (some ⟨b6,0,none⟩)),(7,.pointer (some ⟨X.Wg,0,none⟩)),(24,.int .i64 (k.nt:Nat)),(25,.int .i64 (j:Nat))]
theorem start_loop(hfin:∀(R:Rg),AllIn (rgS X k b1 b5 b6 k.nt) R→∀κ (H:View),Sc (Jm prog X Fin κ .wd k.nt H) 50 b33 cs R [] [.code T33]):∀(d j κ:Nat) (H:View),j+d=k.nt→StAt X k H b5 b6 A lc B tc F fc→∀(R:Rg),AllIn (rgS X k b1 b5 b6 j) R→
   Sc (Jm prog X Fin κ (if j<X.n then .kd else .wd) j H) 50 b33 cs R [] [.code B33,.inLoop B33,.inBlock 0,.code T33]
 | 0,j,κ,H,hj,hst,R,hR=> by
   have e:j=k.nt:=by omega
   subst e;rw[if_neg (by rw[hst.n];omega)];refine Sc.drop hR ?_;unfold rgS;refine .sq (.rg rfl rfl ?_);refine .i ?_ (z:=lss_f (by omega));refine .dn ?_;refine Sc.seq Jm.cl (Sc.cond Jm.cl (t:=false) rfl (fun h=> nomatch h) (fun _=> ?_));refine .xt rfl ?_;exact hfin _ ⟨rfl,rfl,rfl,rfl,rfl,rfl,trivial⟩ κ H
 | d + 1,j,κ,H,hj,hst,R,hR=> by
   rw[if_pos (by rw[hst.n];omega)];refine Sc.drop hR ?_;unfold rgS;obtain⟨hg,hnl,hnt,hok⟩:=Bk.valid hst.al;refine .sq (.rg rfl rfl ?_);refine .i ?_ (z:=lss_t (by omega));refine .dn ?_;refine Sc.seq Jm.cl (Sc.cond Jm.cl (t:=true) rfl (fun _=> ?_) (fun h=> nomatch h));refine .sp (.sq (.bl (.sq ?_)));refine Sc.none hst.C0 ?_;refine Sc.ofTc (SymSt.nil H) ?_;refine .r ?_;refine .m ?_;refine .e (.al (zz:=fun b8=> ?_));refine .e (.st 0 (zz:=?_));refine .done ?_;refine Tc.ofSc (fun H1 hs=> Sc.stopNone (fun hC1=> ?_));have hst1:StAt X k H1 b5 b6 A lc B tc F fc:=hst.of (fun b f o h=> ⟨f,hs.base _ _ h⟩) hC1;have h8:=hs.get (i:=0) rfl;show Sc (Jm prog X Fin κ .kd j H1) 50 b33 cs _ [] _;refine .sq (.rg rfl rfl ?_);refine So.callD rfl rfl rfl nofun rfl (.mk' rfl) rfl (addone_c) ?_;rintro v J' ⟨rfl,κ',rfl⟩;refine .dn (.rg rfl rfl ?_);refine So.opD Jm.cl rfl rfl rfl rfl (OpP.makeFunc rfl rfl rfl) ?_;have hst2:StAt X k (ro H1) b5 b6 A lc B tc F fc:=hst1.of (fun b f o h=> ⟨false,ro_some h⟩) (ro_none hC1);refine Jm.go (f:=125) (fn:=#[]) (caps:=(wkVs X b5 b8 b6).toArray) rfl nofun rfl rfl rfl rfl rfl rfl rfl (fun k1 _=> ?_) (fun k1 _=> ?_)
   · refine .dn (.ib (.rg rfl rfl ?_));refine .i ?_ (z:=add_in (by omega) (by omega));refine .m ?_;refine .dn ?_;refine Sc.inLoop (by exact Jm.cl) ?_;exact start_loop hfin d (j+1) k1 (ro H1) (by omega) hst2 _ ⟨rfl,rfl,rfl,rfl,rfl,rfl,trivial⟩
   · exact worker_c ⟨hst2.bk,hst.sm.nl,fun i hi=> (hst.sm.num i hi).2,hok,hnt,by omega,by omega,hst2.h5,⟨false,ro_some h8⟩,hst2.h6,by omega,hst.GI⟩ k1
end
theorem Ph.of₁ {P:Program}{H:View}{g:Goroutine}{Po:View→Goroutine→Prop}(h:Ph₁ P H g Po):Ph P H g Po:=
 ⟨H,fun _=> none,Po,fun _ _ h=> (nomatch h),(by funext b;unfold View.plus;cases H b <;> rfl),h,fun H' g' _ hp=> by
   have e:H'.plus (fun _=> none)=H':=by funext b;unfold View.plus;cases H' b <;> rfl
   rwa [e]⟩
def View.beside(X:Fk)(H:View):View:=(H.without X.C).without X.Wg
theorem beside_none {X:Fk}{H:View}:View.beside X H X.Wg=none∧View.beside X H X.C=none:=by
 refine⟨?_,?_⟩ <;> unfold View.beside View.without <;> simp
theorem beside_some {X:Fk}{H:View}{b:Nat}(h1:b≠X.C)(h3:b≠X.Wg):View.beside X H b=H b:=by
 unfold View.beside;rw[without_other h3,without_other h1]
theorem Ph.begin {P:Program}{H:View}{g:Goroutine}{Po:View→Goroutine→Prop}(X:Fk)(Fin:Goroutine→Prop)(o:Obj)(hn:X.n≤6)(ne:X.Wg≠X.C)
   (hC:H X.C=some (true,o)) (hWg:H X.Wg=some (true,X.wgO ⟨0,0,0⟩)) (hGI:X.GI (fun _=> false) o)
   (hg:∀k,T (Mw P true X.ok) (MS P X Fin k (if 0<X.n then .kd else .wd) 0) (ro (View.beside X H)) g) (hPo:∀o' g',X.GI (fun i=> decide (i<X.n)) o'→Fin g'→Po ((View.beside X H).put X.C (true,o')) g'):Ph P H g Po:=by
 refine Ph.of₁ ⟨X,Fin,View.beside X H,o,hn,ne,beside_none,?_,hGI,hg,hPo⟩
 funext b
 by_cases e1:b=X.Wg
 · subst e1;rw[View.put_same,hWg]
 · rw[View.put_other _ _ e1];by_cases e3:b=X.C
   · subst e3;rw[View.put_same,hC]
   · rw[View.put_other _ _ e3,beside_some e3 e1]
theorem So.all {J:Obj→Goroutine→Prop}{p:Obj→Prop}{n:Nat}{b:FB}{cs:List Frame}{dl:List (Option Tmp)}{R:Rg}{ds:List Deferred}{l:List Oper}{kk:List Item}(h:∀o,p o→So (J o) n b cs dl R ds l kk):So (fun g=> ∀o,p o→J o g) n b cs dl R ds l kk:=
 fun arr ix ha hx tmps hr o ho=> h o ho arr ix ha hx tmps hr
def Bk.lookTo(k:Bk):Nat→Int×Int
 | 0=> (-1,(k.resL.length:Nat))
 | j+1=> if((k.left j:Nat):Int)<(k.lookTo j).2 then((j:Nat),((k.left j:Nat):Int)) else k.lookTo j
def Bk.look(k:Bk):Int×Int:=k.lookTo k.nt
def lookV(p:Int×Int):Value:=.tuple ⟨[.int .i64 p.1,.int .i64 p.2,.int .i64 0]⟩
section
theorem Look_c(H:View)(k:Bk)(A:Option Addr)(lc:Nat)(B:Option Addr)(tc:Nat)(F:Nat→Option Addr)(fc:Nat→Nat)(hB:BookAt H k A lc B tc F fc)(hn:k.small)(hG:Glob H)(ha:k.alarm=0):
   CallT (Mp prog) 51 #[k.val A lc B tc] H (fun v H'=> H.le H'∧v=lookV k.look):=by
 obtain⟨hgg,hnl,hnt,hok⟩:=Bk.valid ha;have hop:=fun(H':View) (h':H.le H')=> open_yes (Mp prog) H' k A lc B tc (hB.bk.le h') hn (glob_le hG h') ha;refine .en func51 ntmps51 fun St c cs hK=> ?_;refine .sr ?_;refine .e (.bx (zz:=fun b1=> ?_));refine .g ?_;refine .g ?_;refine .g ?_;refine .done (.sr ?_);refine .x (.ld 0) ?_;refine .c rfl rfl rfl rfl (fun H hs=> .f ca85 rfl (hop H hs.base)) ?_;refine .m ?_;refine .x .et ?_;refine .x .et ?_;refine .e (.al (zz:=fun b5=> ?_));refine .e (.st 0 (zz:=?_));refine .g ?_;refine .done (.seq (.sr ?_));refine .m ?_;refine .i ?_ (z:=neq_f (by omega));refine .done (.ff rfl (.skip (.sr ?_)));refine .x .fa ?_;refine .x (.ld 1) ?_;refine .x .ln ?_;refine .e (Or.makeSlice (E:=en) (len:=k.nt) (cap:=k.nt) rfl rfl rfl rfl rfl rfl (Nat.le_refl _) (by omega) rfl rfl (by decide) (fun bC=> ?_));refine .e (.al (zz:=fun b6=> ?_));refine .e (.st 0 (zz:=?_));refine .done (.sr ?_);refine .e (.al (zz:=fun b7=> ?_));refine .done (.seq (.sr ?_));refine .x (.ld 1) ?_;refine .x .ln ?_;refine .m ?_;refine .done ?_;refine Tc.ofSc (fun Hx hs tmps hr=> ?_);obtain⟨X,hX⟩:∃X:Fk,X=⟨k.nt,b7,bC,233,GIl k⟩:=⟨_,rfl⟩
 have x1:=hs.get (i:=0) rfl;have x2:=hs.get (i:=1) rfl;have x3:=hs.get (i:=2) rfl;have x4:=hs.get (i:=3) rfl;have x5:=hs.get (i:=4) rfl;have hnd: [b7,b6,bC,b5,b1].Nodup:=hs.nodup;simp only[List.nodup_cons,List.mem_cons,List.not_mem_nil,or_false,not_or,not_false_eq_true,List.nodup_nil,and_true] at hnd;obtain⟨⟨n1,n2,n3,n4⟩,⟨n5,n6,n7⟩,⟨n8,n9⟩,n10⟩:=hnd;have hout:∀y,y=bC∨y=b7→H y=none:=by
   rintro y (rfl|rfl)
   · exact hs.out _ (List.mem_cons_of_mem _ (List.mem_cons_of_mem _ List.mem_cons_self))
   · exact hs.out _ List.mem_cons_self
 have hle:H.le (View.beside X Hx):=fun b y hb=> by
   have e:∀z,z=bC∨z=b7→b≠z:=fun z hz e=> by subst e;rw[hout b hz] at hb;cases hb
   rw[beside_some (by subst hX;exact e _ (.inl rfl)) (by subst hX;exact e _ (.inr rfl))];exact hs.base _ _ hb
 have y5:View.beside X Hx b5=some (true,.cells ⟨(k.val A lc B tc).cells.toList⟩ 166 (0,0)):=by
   subst hX;rw[beside_some (by exact Ne.symm n8) (by exact Ne.symm n3)];exact x4
 have y6:View.beside X Hx b6=some (true,.cells ⟨[.slice (some ⟨bC,0,none⟩) k.nt k.nt]⟩ 24 (0,0)):=by
   subst hX;rw[beside_some n5 (by exact Ne.symm n1)];exact x2
 obtain⟨Fin,hF⟩:∃Fin:Goroutine→Prop,Fin=fun g=> ∀o',X.GI (fun i=> decide (i<X.n)) o'→T (Mp prog) St ((View.beside X Hx).put X.C (true,o')) g:=⟨_,rfl⟩
 have hcF:Cl prog true noSh Fin:=⟨fun g g' hs h hf=> by
   subst hF;exact fun o' ho=> .step ⟨hs,fun w hw hok=> ⟨g',w,#[],_,h w (fun _ _ e=> by cases e),.refl hw,hf o' ho⟩⟩⟩
 have hz:zeroRow [Value.int .i64 0] (k.nt*1)=leftL k (fun _=> false):=by
   rw[zeroRow_one,Nat.mul_one];unfold leftL;simp[List.map_const']
 refine T.phase (Po:=fun H' g'=> T (Mp prog) St H' g') (Ph.begin X Fin (.cells ⟨leftL k (fun _=> false)⟩ 3 (0,0)) (by subst hX;exact hnt) (by subst hX;exact n2) (by subst hX;rw[←hz];exact x3) (by subst hX;exact x1) (by subst hX;exact rfl) (fun κ=> ?_) (fun o' g' ho hg=> by subst hF;exact hg o' ho)) (fun H' g' h=> h);have hst:StAt X k (ro (View.beside X Hx)) b5 b6 A lc B tc F fc:=
   ⟨hB.of (fun b f o h=> ⟨false,ro_some (hle _ _ h)⟩),hn,ha,by subst hX;rfl,⟨false,ro_some y5⟩,by subst hX;exact⟨false,ro_some y6⟩,ro_none beside_none.2,by subst hX;rfl⟩
 have hfin:∀(R:Rg),AllIn (rgS X k b1 b5 b6 k.nt) R→∀κ (H:View),Sc (Jm prog X Fin κ .wd k.nt H) 50 b33 (c::cs) R [] [.code T33]:=by
   intro R hR κ Hk;refine Sc.drop hR ?_;unfold rgS;refine .sq (.rg rfl rfl ?_);refine So.callD rfl rfl rfl nofun rfl (.mk' rfl) rfl (wait_c hcF) ?_;rintro v J' ⟨rfl,rfl⟩;subst hF;refine So.all (fun o' ho'=> ?_);have hGI:X.GI=GIl k:=by subst hX;rfl
   rw[hGI] at ho';have ho2:o'=.cells ⟨leftL k (fun i=> decide (i<X.n))⟩ 3 (0,0):=ho';subst ho2;have hX2:X.n=k.nt:=by subst hX;rfl
   have z5:(View.beside X Hx).put X.C (true,.cells ⟨leftL k (fun i=> decide (i<X.n))⟩ 3 (0,0)) b5=some (true,.cells ⟨(k.val A lc B tc).cells.toList⟩ 166 (0,0)):=by
     rw[View.put_other _ _ (by subst hX;exact Ne.symm n8)];exact y5
   have z6:(View.beside X Hx).put X.C (true,.cells ⟨leftL k (fun i=> decide (i<X.n))⟩ 3 (0,0)) b6=some (true,.cells ⟨[.slice (some ⟨X.C,0,none⟩) k.nt k.nt]⟩ 24 (0,0)):=by
     rw[View.put_other _ _ (by subst hX;exact n5)];subst hX;exact y6
   have zC:(View.beside X Hx).put X.C (true,.cells ⟨leftL k (fun i=> decide (i<X.n))⟩ 3 (0,0)) X.C=some (true,.cells ⟨leftL k (fun i=> decide (i<X.n))⟩ 3 (0,0)):=View.put_same ..;have zle:H.le ((View.beside X Hx).put X.C (true,.cells ⟨leftL k (fun i=> decide (i<X.n))⟩ 3 (0,0))):=fun b y hb=> by
     rw[View.put_other _ _ (by rintro rfl;subst hX;rw[hout bC (.inl rfl)] at hb;cases hb)];exact hle _ _ hb
   generalize (View.beside X Hx).put X.C (true,.cells ⟨leftL k (fun i=> decide (i<X.n))⟩ 3 (0,0))=H2 at z5 z6 zC zle;refine So.ofTo (SymSt.nil H2) ?_;refine .done (.sr ?_);refine .x .l0 ?_;refine To.callF rfl rfl rfl rfl rfl rfl (by decide) (FnT.f ca122 rfl (results_c _ H2 k A lc B tc (hB.bk.le zle).rows hn.nl (hB.bk.le zle).trains hok hnt)) (fun v H₃ hv=> ?_);obtain⟨hle3,m,es,cl,rfl,⟨fm,q3⟩,q4⟩:=hv;have hsz:=Bk.res_size q4;have z6':=hle3 _ _ z6;have zC':=hle3 _ _ zC;refine .x (OpV.lenMap (E:=en) (es:=es) rfl rfl rfl rfl rfl (fun H hs=> ⟨fm,hs.base _ _ q3⟩) rfl rfl) ?_;refine .g ?_;refine .g ?_;refine .done ?_;rw[hsz];refine .seq (.sr ?_);refine .x .l0 ?_;refine .x .ln ?_;refine .m ?_;refine .done (.block ?_);refine Tc.db (Tc.loopInv (σ:= { j:Nat//j≤k.nt }) (fun j=> ([(2,.int .i64 (k.lookTo j.1).1),(3,.int .i64 (k.lookTo j.1).2),(35,.slice (some ⟨X.C,0,none⟩) k.nt k.nt),(36,.int .i64 (k.nt:Nat)),(37,.int .i64 (j.1:Nat))],[])) (fun j=> k.nt-j.1) ?_ ⟨0,Nat.zero_le _⟩);rintro⟨j,hj⟩ ih;show Tc (Mp prog) St _ _ _ _ [(2,.int .i64 (k.lookTo j).1),(3,.int .i64 (k.lookTo j).2),(35,.slice (some ⟨X.C,0,none⟩) k.nt k.nt),(36,.int .i64 (k.nt:Nat)),(37,.int .i64 (j:Nat))] [] _ _;by_cases c1:j=k.nt
   · subst c1;refine .sr ?_;refine .i ?_ (z:=lss_f (by omega));refine .done (.seq (.ff rfl (.exit rfl (.sr ?_))));refine .m ?_;refine .m ?_;refine .g ?_;refine .g ?_;refine .g ?_;refine .done ?_;refine .rt hK func51 results51 [_,_,_] ?_;exact fun H' hs=> ⟨View.le_trans zle (View.le_trans hle3 hs.base),rfl⟩
   · have c2:j<k.nt:=by omega
     have f1:ldL false 1 (leftL k (fun i=> decide (i<X.n))) (0+((j:Nat):Int).toNat*1)=some (.int .i64 ((k.left j:Nat):Int)):=by
       show _[_]? =_;rw[Nat.zero_add,Int.toNat_natCast,Nat.mul_one];unfold leftL;rw[List.getElem?_map,List.getElem?_range c2];simp[hX2,c2]
     by_cases c3:((k.left j:Nat):Int)<(k.lookTo j).2
     · have e:k.lookTo (j+1)=(((j:Nat):Int),((k.left j:Nat):Int)):=by rw[Bk.lookTo,if_pos c3]
       refine .sr ?_;refine .i ?_ (z:=lss_t (by omega));refine .done (.seq (.tt rfl (.skip (.seq (.block (.sr ?_))))));refine .m ?_;refine .x .ia ?_;refine .x .l0 ?_;refine .g ?_;refine .g ?_;refine .done (.sr ?_);refine .m ?_;refine .m ?_;refine .i ?_ (z:=lss_t (by omega));refine .done (.tt rfl (.r ?_));refine .m ?_;refine .m ?_;refine .g ?_;refine .g ?_;refine .done (.inBlock (.r ?_));refine .i ?_ (z:=add_in (by omega) (by omega));refine .m ?_;refine .done ?_;refine Tc.dropB (ih ⟨j+1,c2⟩ (by simp only;omega)) ?_ (by exact List.Sublist.refl _);simp only[e];exact⟨rfl,rfl,rfl,rfl,rfl,trivial⟩
     · have e:k.lookTo (j+1)=k.lookTo j:=by rw[Bk.lookTo,if_neg c3]
       refine .sr ?_;refine .i ?_ (z:=lss_t (by omega));refine .done (.seq (.tt rfl (.skip (.seq (.block (.sr ?_))))));refine .m ?_;refine .x .ia ?_;refine .x .l0 ?_;refine .g ?_;refine .g ?_;refine .done (.sr ?_);refine .m ?_;refine .m ?_;refine .i ?_ (z:=lss_f (by omega));refine .done (.ff rfl (.skip (.inBlock (.r ?_))));refine .i ?_ (z:=add_in (by omega) (by omega));refine .m ?_;refine .done ?_;refine Tc.dropB (ih ⟨j+1,c2⟩ (by simp only;omega)) ?_ (by exact List.Sublist.refl _);simp only[e];exact⟨rfl,rfl,rfl,rfl,rfl,trivial⟩
 refine Sc.block Jm.cl (Sc.loop Jm.cl ?_) tmps hr;have hgo:=start_loop hfin k.nt 0 κ (ro (View.beside X Hx)) (by omega) hst;subst hX;exact hgo _ (by unfold rgS;refine⟨rfl,?_⟩;refine⟨rfl,?_⟩;refine⟨rfl,?_⟩;refine⟨rfl,?_⟩;refine⟨rfl,?_⟩;refine⟨rfl,?_⟩;exact trivial)
end
end Go.Proofs.YtldmfjcgjdchcaaGreatDoor
namespace Go.Proofs.YtldmfjcgjdchcaaGreatDoor
open Go.RL Go.Proofs.Tryz
set_option maxRecDepth 100000
theorem ex_heardD:bkD.heardL= [[49,50],[49,51]]:=by decide +kernel
theorem ex_heardE:bkE.heardL= [[49,49,50],[50,50]]:=by decide +kernel
theorem ex_clD:(bkD.claimOf 0=0∧bkD.claimOf 1=0∧bkD.claimOf 2=2)∧bkD.claimOf (-1)=2:=by decide +kernel
theorem ex_clE:(bkE.claimOf 0=2∧bkE.claimOf 1=2∧bkE.claimOf 2=0)∧bkE.claimOf (-1)=0:=by decide +kernel
theorem ex_in1:(firstTo (fun i=> !bkE.inAt (exAt [1,1,2]) (exAt [3,9,9]) i) 3).isSome=false∧bkE.earTo (exAt [1,1,2]) (exAt [3,9,9]) 3=⟨[50,50],0,false⟩∧bkE.line [50,50]=some 2:=by decide +kernel
theorem ex_in2:(firstTo (fun i=> !bkE.inAt (exAt [1,1,2]) (exAt [5,9,9]) i) 3).isSome=false∧bkE.earTo (exAt [1,1,2]) (exAt [5,9,9]) 3=⟨[49,49,50],0,false⟩∧bkE.line [49,49,50]=none:=by decide +kernel
theorem ex_look:bkD.look=(1,1):=by decide +kernel
theorem ex_setD:bkD.settled=none:=by decide +kernel
theorem ex_know:trainOk 2 2 6 6=true∧bkD.nowOk 1 2 2 6 6=true:=by decide +kernel
theorem ex_setO:bkO.settled=some (2,0):=by decide +kernel
theorem ex_taken:(bkD.takenAt 1 0=2∧bkD.takenAt 1 1=0)∧bkD.needTo 1 2=2:=by decide +kernel
theorem ex_slips:ascI (bkD.hits 0)= [1,2]:=by decide +kernel
theorem ex_safe3:bkD.safeV [51]=.tuple ⟨[.bool false,.int .i64 0]⟩:=by
 have h:isNum [51]=true∧bkD.clash [51]=false∧bkD.safe [51]=false:=by decide +kernel
 unfold Bk.safeV;rw[if_neg (by rw[bkD_al];decide),if_neg (by rw[h.1];decide),if_neg (by rw[h.2.1];decide),h.2.2]
theorem ex_safe5:bkD.safeV [53]=.tuple ⟨[.bool true,.int .i64 0]⟩:=by
 have h:isNum [53]=true∧bkD.clash [53]=false∧bkD.safe [53]=true:=by decide +kernel
 unfold Bk.safeV;rw[if_neg (by rw[bkD_al];decide),if_neg (by rw[h.1];decide),if_neg (by rw[h.2.1];decide),h.2.2]
theorem ex_spare:bkD.spareV 1 true=spare3 [48] true 0:=by
 have h:bkD.spare 1 true=some [48]:=by decide +kernel
 unfold Bk.spareV;rw[if_neg (by rw[bkD_al];decide),if_neg (by decide)];show(match bkD.spare 1 true with|some x=> spare3 x true 0|none=> spare3 [] false 0)=_;rw[h]
theorem ex_pulses:pulsesV [49,50,48]=.tuple ⟨[.int .i64 13,.int .i64 0]⟩:=by
 have h:isNum [49,50,48]=true∧takenN [49,50,48]=13:=by decide +kernel
 unfold pulsesV;rw[if_neg (by rw[h.1];decide),h.2];rfl
theorem ex_cheap:(canTo 2 2).length≤12∧(firstTo (fun j=> !weightOk (exAt [5,3,1] j)) 3).isSome=false∧(cheap (exAt [5,3,1]) 3 2 2).total=18∧(cheap (exAt [5,3,1]) 3 2 2).done=true∧(cheap (exAt [5,3,1]) 3 2 2).best= [[49],[50,49],[50,50]]:=by decide +kernel
theorem ex_follow1:bkE.followV 3 3 (exAt [1,1,2]) (exAt [3,9,9])=follow3 [50,50] 2 0:=by
 obtain⟨h1,h2,h3⟩:=ex_in1;unfold Bk.followV;rw[if_neg (by rw[bkE_al];decide),if_neg (by decide)];show(if(firstTo (fun i=> !bkE.inAt (exAt [1,1,2]) (exAt [3,9,9]) i) 3).isSome=true then _ else follow3 (bkE.earTo (exAt [1,1,2]) (exAt [3,9,9]) 3).heard (firstI (bkE.line (bkE.earTo (exAt [1,1,2]) (exAt [3,9,9]) 3).heard)) 0)=_;rw[h1,h2];simp only[Bool.false_eq_true,if_false];rw[h3];rfl
theorem ex_follow2:bkE.followV 3 3 (exAt [1,1,2]) (exAt [5,9,9])=follow3 [49,49,50] (-1) 0:=by
 obtain⟨h1,h2,h3⟩:=ex_in2;unfold Bk.followV;rw[if_neg (by rw[bkE_al];decide),if_neg (by decide)];show(if(firstTo (fun i=> !bkE.inAt (exAt [1,1,2]) (exAt [5,9,9]) i) 3).isSome=true then _ else follow3 (bkE.earTo (exAt [1,1,2]) (exAt [5,9,9]) 3).heard (firstI (bkE.line (bkE.earTo (exAt [1,1,2]) (exAt [5,9,9]) 3).heard)) 0)=_;rw[h1,h2];simp only[Bool.false_eq_true,if_false];rw[h3];rfl
set_option maxRecDepth 10000
set_option maxHeartbeats 16000000
theorem can_len {k:Bk}(hok:k.trainsOk){i:Nat}(hi:i<k.nt):(k.can i).length≤12:=by
 obtain⟨h1,h2,h3⟩:=k.train_in hok hi;have e:∀a b lo hi:Nat,(canL a b lo hi).length=(b+1-a)*(hi+1-lo):=fun a b lo hi=> by
   unfold canL upN;rw[List.length_flatMap];simp only[List.length_map,List.length_range',List.map_const',List.sum_replicate_nat]
 unfold Bk.can;rw[e];have h4:=k.kind_le (k.qt i);have m1:(k.pt i).toNat+1-(k.pf i).toNat≤4:=by omega
 have m2:k.kind (k.qt i)+1-k.kind (k.qf i)≤3:=by omega
 exact Nat.mul_le_mul m1 m2
theorem ears_count {k:Bk}(ha:k.alarm=0):(k.earsL k.nt).length≤12 ^ 6:=by
 obtain⟨_,_,hnt,hok⟩:=Bk.valid ha;have h:∀n,n≤k.nt→(k.earsL n).length≤12 ^ n:=by
   intro n;induction n with
   | zero=> intro _;exact Nat.le_refl _
   | succ n ih=>
     intro hn;unfold Bk.earsL;rw[List.length_flatMap];have h1:∀l:List Ear,(l.map fun e=> ((k.can n).map fun x=> e.hear x.1 x.2).length).sum≤l.length*12:=by
       intro l;induction l with
       | nil=> exact Nat.le_refl _
       | cons e t iht=>
         have:=can_len hok (i:=n) (by omega);simp only[List.map_cons,List.sum_cons,List.length_map,List.length_cons] at iht ⊢;omega
     have h2:=h1 (k.earsL n);have h3:=ih (by omega);rw[Nat.pow_succ];omega
 exact Nat.le_trans (h k.nt (Nat.le_refl _)) (Nat.pow_le_pow_right (by decide) hnt)
section
variable(M:Md prog)(H:View)
theorem HeardG_c(k:Bk)(A:Option Addr)(lc:Nat)(B:Option Addr)(tc:Nat)(hk:BkAt H k A lc B tc)(hn:k.small)(hG:Glob H)(ha:k.alarm=0):
   CallT M 49 #[k.val A lc B tc] H (fun v H'=> H.le H'∧∃g:Gl 9 1,v=wordsV g 0∧(g.n=k.heardL.length∧g.l=strsV k.heardL)∧∀x∈g.bl,H' x.1=some x.2∧H x.1=none):=by
 obtain⟨_,hnl,hnt,hok⟩:=Bk.valid ha;have h12:=ears_count ha;have hop:=fun(H':View) (h':H.le H')=> open_yes M H' k A lc B tc (hk.le h') hn (glob_le hG h') ha;refine .en func49 ntmps49 fun St c cs hK=> ?_;refine U2 ?_;refine .bo fun b1=> ?_;refine U6 ?_;refine .c rfl rfl rfl rfl (fun H hs=> .h (hop H hs.base)) ?_;refine U3 ?_;refine .al fun b4=> ?_;refine U22 ?_;refine To.callF rfl rfl rfl rfl rfl rfl (by decide) (FnT.h (ears_c M H k A lc B tc hk.trains hok hnt k.nt (Nat.le_refl _))) (fun v H₂ hv=> ?_);obtain⟨hle,m,es,cl,rfl,⟨fm,q3⟩,q4⟩:=hv;have hsz:=ears_size q4;refine .e (Or.range (E:=en) (es:=es) (cl:=cl) rfl rfl (fun H hs=> ⟨fm,hs.base _ _ q3⟩) rfl rfl rfl (by decide) (fun it=> ?_));refine U2 ?_;refine Tc.db (Tc.loopInv (σ:= { s:Array Nat×List (List UInt8)×Gl 9 1//s.2.2.l=strsV s.2.1∧(unseen es s.1).length+s.2.1.length=es.size∧∀x,x∈(k.earsL k.nt).map (·.heard)↔(x∈s.2.1∨∃me∈unseen es s.1,∃e:Ear,me.key=e.val∧x=e.heard) })
   (fun s=> ([(1,.pointer (some ⟨b1,0,none⟩)),(4,.pointer (some ⟨b4,0,none⟩)),(6,s.1.2.2.val),(21,.pointer (some ⟨it,0,none⟩))],[(it,true,.mapIter (some m) cl s.1.1 cl),(b4,true,.cells ⟨(k.val A lc B tc).cells.toList⟩ 166 (0,0)),(b1,true,.cells ⟨(k.val A lc B tc).cells.toList⟩ 45 (0,0))]++s.1.2.2.bl)) (fun s=> (unseen es s.1.1).length) ?_ ⟨(#[],[],Gl.nil 9 1),rfl,by rw[unseen_start];simp,fun x=> by
     rw[unseen_start,List.mem_map];constructor
     · rintro⟨e,he,rfl⟩;obtain⟨me,h1,h2,_⟩:=(q4.mem e.val (.bool true)).1 ⟨e,(k.mem_earsL _ e).1 he,rfl,rfl⟩;exact .inr ⟨me,h1,e,h2,rfl⟩
     · rintro(h|⟨me,h1,e,h2,rfl⟩)
       · cases h
       · obtain⟨y,h3,h4,_⟩:=earF_keys q4 me h1;rw[ear_inj (h2.symm.trans h4)];exact⟨y,(k.mem_earsL _ y).2 h3,rfl⟩⟩)
 rintro⟨⟨seen,dn,g⟩,p2,p3,p4⟩ ih;simp only at p2 p3 p4;show Tc M St _ _ H₂ _ [(1,.pointer (some ⟨b1,0,none⟩)),(4,.pointer (some ⟨b4,0,none⟩)),(6,g.val),(21,.pointer (some ⟨it,0,none⟩))] ([(it,true,.mapIter (some m) cl seen cl),(b4,true,.cells ⟨(k.val A lc B tc).cells.toList⟩ 166 (0,0)),(b1,true,.cells ⟨(k.val A lc B tc).cells.toList⟩ 45 (0,0))]++g.bl) _ _;have hgn:g.n=dn.length:=by have:=g.hl;rw[p2,strsV_len] at this;omega
 refine U2 ?_;refine .e (Or.next (es:=es) 0 rfl rfl rfl (fun H hs=> ⟨fm,hs.base _ _ q3⟩) q4.lt rfl (by decide) (fun me he hse=> ?_) (fun hall=> ?_))
 · have hp :=unseen_next q4.borns he hse;obtain⟨e0,u1,u2,_⟩:=earF_keys q4 me he;have hfind:=earF_find q4 he;have hpl:=hp.length_eq;rw[List.length_cons] at hpl;refine U8 ?_;refine .e (Or.entry (es:=es) (e:=me) (st:=me.born) rfl rfl (fun H hs=> ⟨true,hs.get (i:=0) rfl⟩) (fun H hs=> ⟨fm,hs.base _ _ q3⟩) (by simp) hfind rfl (by decide) ?_);rw[u2];refine U ?_;refine .al fun b7=> ?_;refine U6 ?_;refine .e (.bs (zz:=fun bs=> ?_));refine .e (Or.append (E:=en) 5 rfl rfl rfl rfl rfl rfl rfl rfl rfl rfl rfl rfl rfl rfl rfl (fun H hs=> SrcAt.of (hs.get (i:=0) rfl) (Nat.le_of_ble_eq_true rfl)) rfl (by omega) rfl (by decide) (fun g' hn2 hl2=> ?_));refine U3 ?_;exact Tc.db (ih ⟨(seen.push me.born,dn++[e0.heard],g'),by simp only;rw[hl2,p2,strsV_app];rfl,by simp only;rw[List.length_append,List.length_singleton];omega,fun x=> by
     rw[p4 x,List.mem_append,List.mem_singleton];constructor
     · rintro(h|⟨me',h1,e',h2,h5⟩)
       · exact .inl (.inl h)
       · rcases List.mem_cons.1 (hp.mem_iff.1 h1) with rfl|h6
         · rw[ear_inj (h2.symm.trans u2)] at h5;exact .inl (.inr h5)
         · exact .inr ⟨me',h6,e',h2,h5⟩
     · rintro((h|h)|⟨me',h6,h7⟩)
       · exact .inl h
       · exact .inr ⟨me,hp.mem_iff.2 (List.mem_cons_self ..),e0,u2,h⟩
       · exact .inr ⟨me',hp.mem_iff.2 (List.mem_cons_of_mem _ h6),h7⟩⟩ (by simp only;omega))
 · have hnil:=unseen_done hall;rw[hnil] at p3 p4;simp only[List.not_mem_nil,false_and,exists_false,or_false] at p4;rw[List.length_nil,Nat.zero_add] at p3;have hheard:k.heardL=ascOf dn:=ascOf_congr p4;refine U8 ?_;refine .e (Or.sortGG (dec:=decS dn) (L1:= [(it,true,.mapIter (some m) cl seen cl),(b4,true,.cells ⟨(k.val A lc B tc).cells.toList⟩ 166 (0,0)),(b1,true,.cells ⟨(k.val A lc B tc).cells.toList⟩ 45 (0,0))]) g (codesS dn) (p2.trans (strsL_codes _).symm) (codes_enc _) (by omega) rfl rfl rfl rfl rfl (by decide) (fun H Q h=> .h h) (fun g' mm hv' hn' hb' hl' ht hs'=> ?_));rw[←hv'];rw[hgn] at ht hs' hn';have hfin:(ddTo mm dn.length).map (decS dn)=k.heardL:=by rw[hheard];exact codes_asc rfl ht hs'
   have hE':=(codes_enc dn).turned ht;refine U4 ?_;refine .e (Or.compSGl (dec:=decS dn) (L1:= [(it,true,.mapIter (some m) cl seen cl),(b4,true,.cells ⟨(k.val A lc B tc).cells.toList⟩ 166 (0,0)),(b1,true,.cells ⟨(k.val A lc B tc).cells.toList⟩ 45 (0,0))]) g' mm hl' hE' (by omega) rfl rfl rfl rfl rfl (by decide) (fun H Q h=> .h h) (fun g2 hn3 hl3=> ?_));rw[hn'] at hn3 hl3;have hl4:g2.l=strsV k.heardL:=by rw[hl3,strsL_map,hfin];rfl
   have hn4:g2.n=k.heardL.length:=by rw[hn3,←hfin,List.length_map]
   refine U3 ?_;refine .rt hK func49 results49 [_,_] ?_;exact fun H' hs=> ⟨View.le_trans hle hs.base,g2,rfl,⟨hn4,hl4⟩,fun x hx=> ⟨hs.at_ x (by simp[hx]),none_le hle (hs.out x (by simp[hx]))⟩⟩
end
end Go.Proofs.YtldmfjcgjdchcaaGreatDoor
namespace Go.RL
open Go.Conc
section
variable {P:Program}{M:Md P}{St:View→Goroutine→Prop}{n:Nat}{b:FB}{H₀:View}{cs:List Frame}{R:Rg}{L:Bl}{ds:List Deferred}{k:List Item}{md:Region.Mode}{ops:Array Oper}
theorem Ta.callL2(i j:Nat){B:List Nat}{Hs:View}{Ls Lb:Bl}{o:Oper}{d:Nat}{fuel:Nat}{listed:Array Bool}{cl:Go.Call}{x:Operand}{fv:Value}{az:List Value}(hr:Region.ready md ops listed= [i,j])(hi:ops[i]? =some o)
   (hw:wantB (ops.toList.map (fun o:Oper=> o.dst)) R o=some true) (hop:o.op=.call cl) (hcl:cl.callee=.value x) (hx:evR R x=some fv) (has:evRs R cl.args.toList=some az) (hd:o.dst=some d) (hn:d<n)
   {Q:Value→View→Prop} (hc:FnT M fv az H₀ Q) (hle:∀v H₁,Q v H₁→Hs.le H₁) (h1:Ls.Sublist L) (h2:(B.all fun j=> !((listed.setIfInBounds i true).getD j true))=false∨Lb.Sublist L)
   (hk:∀v H₁,Q v H₁→Ta M St n b H₁ cs (S2 Hs B Ls Lb) md ops fuel (listed.setIfInBounds i true) ((d,v)::R) L ds k)
   (hj:TaOp M St n b H₀ cs (S2 Hs B Ls Lb) md ops fuel listed R L ds k j):
   Ta M St n b H₀ cs (S2 Hs B Ls Lb) md ops (fuel+1) listed R L ds k:=fun H tmps hs hr' _ H₂ h2' _=> by
 have hs:=hs.mono h2';refine⟨fun e=> (by rw[hr] at e;cases e),fun j' hj' o' ho'=> ?_⟩;rw[hr] at hj';have hcase:j'=i∨j'=j:=by simpa using hj'
 rcases hcase with rfl|rfl
 · rw[hi] at ho';cases ho'
   refine⟨(by rw[hop];rfl),?_⟩;have hw':Region.wanted o (yielded ops tmps)=true:=wantB_ok (fun j=> by
     simp only[List.getElem?_map,Array.getElem?_toList];cases ops[j]? <;> rfl) hr' hw
   rw[if_pos hw'];obtain⟨F,rfl,hdj,hF⟩:=hs.split;have e1:=hr'.ev hx;have hmap:cl.args.map (evT tmps)=az.toArray:=by
     apply Array.ext'
     simpa using hr'.evs has
   have hex:execOp (evT tmps) o=(Deferred.ofValue fv az.toArray).bind fun d=> invoke d.target d.args:=by
     have h1:execOp (evT tmps) o=(resolve (evT tmps) cl o.type).bind fun d=> invoke d.target d.args:=by unfold execOp;rw[hop];rfl
     rw[h1];unfold resolve;rw[hcl];simp only[e1,hmap]
   unfold OpRun;rw[hex];have fin:∀v H'',Beside F Q v H''→S2 Hs B Ls Lb (listed.setIfInBounds j' true) H''∧AnyT M md ops (S2 Hs B Ls Lb) (fun tmps H=> T M St H (G (b.at tmps ds k) cs)) fuel (listed.setIfInBounds j' true) (putT tmps o.dst v) H'':=by
     rintro v H'' ⟨H₁,rfl,hd',hq⟩;have hsy:SymSt H₁ L (H₁.plus F):=.joined hs.nodup hF hd';have hS:S2 Hs B Ls Lb (listed.setIfInBounds j' true) (H₁.plus F):=S2.mkL (hle v H₁ hq) h1 h2 _ hsy;refine⟨hS,?_⟩;rw[hd];exact hk v H₁ hq _ _ hsy (hr'.put hn v) hS
   refine vwp_mono _ (fun nx H' hn'=> ?_) (hc.frame hdj);cases nx <;> first
     | exact hn'.elim
     | exact CallT.mono hn' fin
     | exact GoT.mono hn' fin
 · obtain⟨o2,ho2,hd2,hw2,h'⟩:=hj;rw[ho'] at ho2;cases ho2
   refine⟨hd2,?_⟩;have hw':Region.wanted o' (yielded ops tmps)=true:=wantB_ok (fun j=> by
     simp only[List.getElem?_map,Array.getElem?_toList];cases ops[j]? <;> rfl) hr' hw2
   rw[if_pos hw'];refine(h' H₂ tmps hs hr').mono ?_;rintro t H' ⟨R',L',h1,h2,h3,h4⟩;exact⟨h3 H' h2,h4 H' t h2 h1 (h3 H' h2)⟩
theorem Tc.viaB {x:Item}(F:View→Rg→Bl→Prop)(hF:∀H R L,F H R L→Tc M St n b H cs R L ds k)(h:(∀H R L,F H R L→Tc M St n b H cs R L ds k)→Tc M St n b H₀ cs R L ds (x::k)):Tc M St n b H₀ cs R L ds (x::k):=h hF
end
end Go.RL
namespace Go.Proofs.YtldmfjcgjdchcaaGreatDoor
open Go.RL Go.Proofs.Tryz
set_option maxRecDepth 10000
set_option maxHeartbeats 32000000
theorem strs_lit {H:View}{b:Nat}{f:Bool}{gt:TypeId}{gz:Nat×Nat}(m:List (List UInt8))(h:H b=some (f,.cells ⟨strsV m⟩ gt gz)):StrsAt H (some ⟨b,0,none⟩) m.length (fun j=> m[j]?.getD []):=
 .inr ⟨b,0,f,_,gt,gz,rfl,h,fun j hj=> by
   show(strsV m)[_]? =_;rw[Nat.zero_add,Int.toNat_natCast,Nat.mul_one];unfold strsV;rw[List.getElem?_map];simp only[List.getElem?_eq_getElem hj];rfl⟩
theorem words_true(l:List (List UInt8)){n:Nat}(hn:n=l.length):(decide (n=l.length)&&allB (fun i=> decide ((fun j=> l[j]?.getD []) i=(fun j=> l[j]?.getD []) i)) n)=true:=by
 rw[decide_eq_true hn,(allB_iff n).2 (fun i _=> decide_eq_true rfl)];rfl
theorem ints_lit {H:View}{b:Nat}{f:Bool}{gt:TypeId}{gz:Nat×Nat}(m:List Int)(h:H b=some (f,.cells ⟨intsL m⟩ gt gz)):FreeAt H (some ⟨b,0,none⟩) m.length (exAt m):=
 .inr ⟨b,0,f,_,gt,gz,rfl,h,fun j hj=> by
   show(intsL m)[_]? =_;rw[Nat.zero_add,Int.toNat_natCast,Nat.mul_one];unfold intsL exAt;rw[List.getElem?_map];simp only[List.getElem?_eq_getElem hj];rfl⟩
theorem cl_at {e:TypeId}(g:Gl e 1){H:View}(h:∀x∈g.bl,H x.1=some x.2){f:Nat→Int}{n:Nat}(hl:g.l=clL f n)(hn:g.n=n):FreeAt H (g.blk.map fun b=> ⟨b,0,none⟩) n f:=by
 cases hb:g.blk with
 | none=>
   have:=g.h0 hb;have:=g.hc;exact .inl (by omega)
 | some b=>
   have hbl:g.bl= [(b,true,.cells ⟨g.l++g.junk⟩ e (0,0))]:=by unfold Gl.bl;rw[hb]
   refine .inr ⟨b,0,true,_,e,(0,0),rfl,h (b,true,.cells ⟨g.l++g.junk⟩ e (0,0)) (by rw[hbl];simp),fun j hj=> ?_⟩;show(g.l++g.junk)[_]? =_;rw[Nat.zero_add,Int.toNat_natCast,Nat.mul_one,List.getElem?_append_left (by rw[hl,clL_len];exact hj),hl];unfold clL;rw[List.getElem?_map,List.getElem?_range hj];rfl
theorem clL_ints(m:List Int):intsL m=clL (exAt m) m.length:=by
 apply List.ext_getElem?
 intro i;unfold intsL clL exAt;rw[List.getElem?_map,List.getElem?_map];by_cases h:i<m.length
 · rw[List.getElem?_range h,List.getElem?_eq_getElem h];simp[h]
 · rw[List.getElem?_eq_none (by omega),List.getElem?_eq_none (by simp;omega)];rfl
theorem three {p:Nat→Prop}(h0:p 0)(h1:p 1)(h2:p 2):∀i,i<3→p i:=fun i hi=> by
 rcases(by omega:i=0∨i=1∨i=2) with rfl|rfl|rfl
 · exact h0
 · exact h1
 · exact h2
theorem two {p:Nat→Prop}(h0:p 0)(h1:p 1):∀i,i<2→p i:=fun i hi=> by
 rcases(by omega:i=0∨i=1) with rfl|rfl
 · exact h0
 · exact h1
theorem strs_src {H:View}{a:Option Addr}{n c:Nat}{l:List (List UInt8)}(h:SrcAt H 1 (.slice a n c) n (strsV l))(hn:n=l.length):StrsAt H a n (fun j=> l[j]?.getD []):=by
 obtain⟨_,_,⟨_,_,h1,h2⟩|⟨b,off,c',f,cs,e,fz,h1,h2,h3,h4⟩⟩:=h
 · have:l= []:=by simpa [strsV] using h2
   exact .inl (by rw[hn,this];rfl)
 · simp only[Value.slice.injEq] at h1;refine .inr ⟨b,off,f,cs,e,fz,h1.1,h2,fun j hj=> ?_⟩;show cs[_]? =_;have hjl:j<l.length:=by omega
   have h5:=congrArg (fun x=> x[j]?) h4;simp only[List.getElem?_take,List.getElem?_drop] at h5;rw[if_pos (by rw[strsV_len];exact hjl)] at h5;rw[Int.toNat_natCast,Nat.mul_one,h5];unfold strsV;rw[List.getElem?_map];simp only[List.getElem?_eq_getElem hjl];rfl
theorem To.permL2 {P:Program}{M:Md P}{St:View→Goroutine→Prop}{n:Nat}{b:FB}{H₀:View}{cs:List Frame}{R:Rg}{L L₁:Bl}{ds:List Deferred}{k:List Item}{dl:List (Option Tmp)}{l:List Oper}(p:L₁.Perm L)(h:To M St n b H₀ cs dl R L₁ ds l k):To M St n b H₀ cs dl R L ds l k:=To.perm p h
theorem lives_c(H:View)(hG:Glob H):CallT (Mp prog) 15 #[] H (fun v H'=> H.le H'∧v=.bool true):=by
 have sD:bkD.small:=ex_small rfl (by decide) rfl rfl;have sE:bkE.small:=ex_small rfl (by decide) rfl rfl;have sO:bkO.small:=ex_small rfl (by decide) rfl rfl;refine .en func15 ntmps15 fun St c cs hK=> ?_;refine U6 ?_;refine To.callF rfl rfl rfl rfl rfl rfl (by decide) (FnT.h (Example_c _ H)) (fun v H1 hv=> ?_);obtain⟨tl1,dA,dlc,dB,dtc,dF,dfc,rfl,hD1⟩:=hv;refine To.callF rfl rfl rfl rfl rfl rfl (by decide) (FnT.h (joined_c _ H1)) (fun v H2 hv=> ?_);obtain⟨le2,eA,elc,eB,etc,eF,efc,rfl,hE2⟩:=hv;have tl2:=View.le_trans tl1 le2;have hD2:=hD1.le le2;have hG2:=glob_le hG tl2;refine .al fun b1=> ?_;refine .al fun b2=> ?_;refine U4 ?_;refine Tc.db (R':= [(1,.pointer (some ⟨b1,0,none⟩)),(2,.pointer (some ⟨b2,0,none⟩))]) (L':= [(b2,true,.cells ⟨(bkE.val eA elc eB etc).cells.toList⟩ 45 (0,0)),(b1,true,.cells ⟨(bkD.val dA dlc dB dtc).cells.toList⟩ 45 (0,0))]) ?_;refine U2 ?_;refine To.callF rfl rfl rfl rfl rfl rfl (by decide) (FnT.h (HeardG_c _ H2 bkD dA dlc dB dtc hD2.bk sD hG2 bkD_al)) (fun v H3 hv=> ?_);obtain⟨le3,g3,rfl,⟨ng3,lg3⟩,mg3⟩:=hv;rw[ex_heardD] at ng3 lg3;refine U6 ?_;have tl3:=View.le_trans tl2 le3;have hD3:=hD2.le le3;have hE3:=hE2.le le3;have hG3:=glob_le hG tl3;refine U ?_;refine Tc.db (R':= [(1,.pointer (some ⟨b1,0,none⟩)),(2,.pointer (some ⟨b2,0,none⟩)),(3,g3.val),(4,.int .i64 0)]) (L':= [(b2,true,.cells ⟨(bkE.val eA elc eB etc).cells.toList⟩ 45 (0,0)),(b1,true,.cells ⟨(bkD.val dA dlc dB dtc).cells.toList⟩ 45 (0,0))]) ?_;refine U2 ?_;refine To.callF rfl rfl rfl rfl rfl rfl (by decide) (FnT.h (Reaches_c _ H3 bkD dA dlc dB dtc hD3.bk sD hG3 bkD_al)) (fun v H4 hv=> ?_);obtain⟨le4,g5,rfl,⟨ng5,lg5⟩,mg5⟩:=hv;rw[ex_clD.2];refine U8 ?_;have tl4:=View.le_trans tl3 le4;have hD4:=hD3.le le4;have hE4:=hE3.le le4;have hG4:=glob_le hG tl4;refine U ?_;refine Tc.db (R':= [(1,.pointer (some ⟨b1,0,none⟩)),(2,.pointer (some ⟨b2,0,none⟩)),(3,g3.val),(4,.int .i64 0),(5,g5.val),(6,.int .i64 2),(7,.int .i64 0)]) (L':= [(b2,true,.cells ⟨(bkE.val eA elc eB etc).cells.toList⟩ 45 (0,0)),(b1,true,.cells ⟨(bkD.val dA dlc dB dtc).cells.toList⟩ 45 (0,0))]) ?_;refine U2 ?_;refine To.callF rfl rfl rfl rfl rfl rfl (by decide) (FnT.h (HeardG_c _ H4 bkE eA elc eB etc hE4.bk sE hG4 bkE_al)) (fun v H5 hv=> ?_);obtain⟨le5,g8,rfl,⟨ng8,lg8⟩,mg8⟩:=hv;rw[ex_heardE] at ng8 lg8;refine U6 ?_;have tl5:=View.le_trans tl4 le5;have hD5:=hD4.le le5;have hE5:=hE4.le le5;have hG5:=glob_le hG tl5;refine U ?_;refine Tc.db (R':= [(1,.pointer (some ⟨b1,0,none⟩)),(2,.pointer (some ⟨b2,0,none⟩)),(3,g3.val),(4,.int .i64 0),(5,g5.val),(6,.int .i64 2),(7,.int .i64 0),(8,g8.val),(9,.int .i64 0)]) (L':= [(b2,true,.cells ⟨(bkE.val eA elc eB etc).cells.toList⟩ 45 (0,0)),(b1,true,.cells ⟨(bkD.val dA dlc dB dtc).cells.toList⟩ 45 (0,0))]) ?_;refine U2 ?_;refine To.callF rfl rfl rfl rfl rfl rfl (by decide) (FnT.h (Reaches_c _ H5 bkE eA elc eB etc hE5.bk sE hG5 bkE_al)) (fun v H6 hv=> ?_);obtain⟨le6,g10,rfl,⟨ng10,lg10⟩,mg10⟩:=hv;rw[ex_clE.2];refine U8 ?_;have tl6:=View.le_trans tl5 le6;have hD6:=hD5.le le6;have hE6:=hE5.le le6;have hG6:=glob_le hG tl6;refine U ?_;refine Tc.db (R':= [(1,.pointer (some ⟨b1,0,none⟩)),(2,.pointer (some ⟨b2,0,none⟩)),(3,g3.val),(4,.int .i64 0),(5,g5.val),(6,.int .i64 2),(7,.int .i64 0),(8,g8.val),(9,.int .i64 0),(10,g10.val),(11,.int .i64 0),(12,.int .i64 0)]) (L':= [(b2,true,.cells ⟨(bkE.val eA elc eB etc).cells.toList⟩ 45 (0,0)),(b1,true,.cells ⟨(bkD.val dA dlc dB dtc).cells.toList⟩ 45 (0,0))]) ?_;have fl6:=fun(H':View) (p1 p2:Nat) (h':H6.le H') (k1:H' p1=some (true,.cells ⟨intsL [1,1,2]⟩ 3 (0,0))) (k2:H' p2=some (true,.cells ⟨intsL [3,9,9]⟩ 3 (0,0)))=> isV (Follow_c (Mp prog) H' bkE eA elc eB etc (hE6.bk.le h') sE (glob_le hG6 h') (some ⟨p1,0,none⟩) (some ⟨p2,0,none⟩) 3 3 3 3 (exAt [1,1,2]) (exAt [3,9,9]) (ints_lit [1,1,2] k1) (ints_lit [3,9,9] k2)) ex_follow1;refine U2 ?_;refine .e (.bs (zz:=fun p1=> ?_));refine .e (.bs (zz:=fun p2=> ?_));refine .c rfl rfl rfl rfl (fun H hs=> .h (fl6 H p1 p2 hs.base (hs.get (i:=1) rfl) (hs.get (i:=0) rfl))) ?_;refine U9 ?_;refine Tc.db (R':= [(1,.pointer (some ⟨b1,0,none⟩)),(2,.pointer (some ⟨b2,0,none⟩)),(3,g3.val),(4,.int .i64 0),(5,g5.val),(6,.int .i64 2),(7,.int .i64 0),(8,g8.val),(9,.int .i64 0),(10,g10.val),(11,.int .i64 0),(12,.int .i64 0),(13,strV [50,50]),(14,.int .i64 2),(15,.int .i64 0)]) (L':= [(b2,true,.cells ⟨(bkE.val eA elc eB etc).cells.toList⟩ 45 (0,0)),(b1,true,.cells ⟨(bkD.val dA dlc dB dtc).cells.toList⟩ 45 (0,0))]) ?_;have fl7:=fun(H':View) (p1 p2:Nat) (h':H6.le H') (k1:H' p1=some (true,.cells ⟨intsL [1,1,2]⟩ 3 (0,0))) (k2:H' p2=some (true,.cells ⟨intsL [5,9,9]⟩ 3 (0,0)))=> isV (Follow_c (Mp prog) H' bkE eA elc eB etc (hE6.bk.le h') sE (glob_le hG6 h') (some ⟨p1,0,none⟩) (some ⟨p2,0,none⟩) 3 3 3 3 (exAt [1,1,2]) (exAt [5,9,9]) (ints_lit [1,1,2] k1) (ints_lit [5,9,9] k2)) ex_follow2;refine U2 ?_;refine .e (.bs (zz:=fun p1=> ?_));refine .e (.bs (zz:=fun p2=> ?_));refine .c rfl rfl rfl rfl (fun H hs=> .h (fl7 H p1 p2 hs.base (hs.get (i:=1) rfl) (hs.get (i:=0) rfl))) ?_;refine U9 ?_;refine Tc.db (R':= [(1,.pointer (some ⟨b1,0,none⟩)),(2,.pointer (some ⟨b2,0,none⟩)),(3,g3.val),(4,.int .i64 0),(5,g5.val),(6,.int .i64 2),(7,.int .i64 0),(8,g8.val),(9,.int .i64 0),(10,g10.val),(11,.int .i64 0),(12,.int .i64 0),(13,strV [50,50]),(14,.int .i64 2),(15,.int .i64 0),(16,strV [49,49,50]),(17,.int .i64 (-1)),(18,.int .i64 0)]) (L':= [(b2,true,.cells ⟨(bkE.val eA elc eB etc).cells.toList⟩ 45 (0,0)),(b1,true,.cells ⟨(bkD.val dA dlc dB dtc).cells.toList⟩ 45 (0,0))]) ?_;refine U2 ?_;refine .c rfl rfl rfl rfl (fun H hs=> .h (isV (Look_c H bkD dA dlc dB dtc dF dfc (hD6.le hs.base) sD (glob_le hG6 hs.base) bkD_al) (congrArg lookV ex_look))) ?_;refine U9 ?_;refine Tc.db (R':= [(1,.pointer (some ⟨b1,0,none⟩)),(2,.pointer (some ⟨b2,0,none⟩)),(3,g3.val),(4,.int .i64 0),(5,g5.val),(6,.int .i64 2),(7,.int .i64 0),(8,g8.val),(9,.int .i64 0),(10,g10.val),(11,.int .i64 0),(12,.int .i64 0),(13,strV [50,50]),(14,.int .i64 2),(15,.int .i64 0),(16,strV [49,49,50]),(17,.int .i64 (-1)),(18,.int .i64 0),(19,.int .i64 1),(20,.int .i64 1),(21,.int .i64 0)]) (L':= [(b2,true,.cells ⟨(bkE.val eA elc eB etc).cells.toList⟩ 45 (0,0)),(b1,true,.cells ⟨(bkD.val dA dlc dB dtc).cells.toList⟩ 45 (0,0))]) ?_;refine U2 ?_;refine .c rfl rfl rfl rfl (fun H hs=> .h (isV (Settled_c _ H bkD dA dlc dB dtc (hD6.bk.le hs.base) sD (glob_le hG6 hs.base) bkD_al) (congrArg settledV ex_setD))) ?_;refine U11 ?_;refine Tc.db (R':= [(1,.pointer (some ⟨b1,0,none⟩)),(2,.pointer (some ⟨b2,0,none⟩)),(3,g3.val),(4,.int .i64 0),(5,g5.val),(6,.int .i64 2),(7,.int .i64 0),(8,g8.val),(9,.int .i64 0),(10,g10.val),(11,.int .i64 0),(12,.int .i64 0),(13,strV [50,50]),(14,.int .i64 2),(15,.int .i64 0),(16,strV [49,49,50]),(17,.int .i64 (-1)),(18,.int .i64 0),(19,.int .i64 1),(20,.int .i64 1),(21,.int .i64 0),(22,.int .i64 0),(23,.int .i64 0),(24,.bool false),(25,.int .i64 0)]) (L':= [(b2,true,.cells ⟨(bkE.val eA elc eB etc).cells.toList⟩ 45 (0,0)),(b1,true,.cells ⟨(bkD.val dA dlc dB dtc).cells.toList⟩ 45 (0,0))]) ?_;refine Tc.viaB (fun H' R' L'=> ∃oA olc oB otc oF ofc b26,H6.le H'∧BookAt H' bkO oA olc oB otc oF ofc∧AllIn [(1,.pointer (some ⟨b1,0,none⟩)),(2,.pointer (some ⟨b2,0,none⟩)),(3,g3.val),(4,.int .i64 0),(5,g5.val),(6,.int .i64 2),(7,.int .i64 0),(8,g8.val),(9,.int .i64 0),(10,g10.val),(11,.int .i64 0),(12,.int .i64 0),(13,strV [50,50]),(14,.int .i64 2),(15,.int .i64 0),(16,strV [49,49,50]),(17,.int .i64 (-1)),(18,.int .i64 0),(19,.int .i64 1),(20,.int .i64 1),(21,.int .i64 0),(22,.int .i64 0),(23,.int .i64 0),(24,.bool false),(25,.int .i64 0),(26,.pointer (some ⟨b26,0,none⟩)),(27,.int .i64 0)] R'∧List.Sublist [(b26,true,.cells ⟨(bkO.val oA olc oB otc).cells.toList⟩ 45 (0,0)),(b2,true,.cells ⟨(bkE.val eA elc eB etc).cells.toList⟩ 45 (0,0)),(b1,true,.cells ⟨(bkD.val dA dlc dB dtc).cells.toList⟩ 45 (0,0))] L') ?_ (fun fin=> ?_)
 rotate_left
 · refine Tc.dr [7] [] mixed rfl ?_;refine .q 0 rfl (OpV.load (E:=en) 1 rfl rfl rfl rfl rfl) ?_;refine .z 1 rfl (OpV.takeCall rfl rfl rfl rfl (fun H hs=> .h (train_c _ H 2 6))) ?_;refine Ta.callL2 2 6 (by kernel_rfl) rfl rfl rfl rfl rfl rfl rfl (by decide) (FnT.h (Know_c _ H6 bkD dA dlc dB dtc dF dfc hD6 sD hG6 bkD_al 1 (by decide) 2 2 6 6 ex_know.1 ex_know.2)) (by intro _ _ hh;exact hh.1) (by exact List.Sublist.refl _) (.inr (by exact List.Sublist.refl _)) (fun v Hk hv=> ?_) (TaOp.mk rfl rfl rfl (.al (zz:=fun b26=> ⟨S2.mk (by apply List.Sublist.cons;exact List.Sublist.refl _) (.inr (by apply List.Sublist.cons;exact List.Sublist.refl _)),?_⟩)))
   · obtain⟨lek,oA,olc,oB,otc,oF,ofc,rfl,hO⟩:=hv;refine .nn 3 ?_;refine .nn 4 ?_;refine .nw 5 ?_;refine Ta.each [6] (by kernel_rfl) rfl ⟨TaOp.mk rfl rfl rfl (.al (zz:=fun b26=> ⟨S2.mkL lek (by apply List.Sublist.cons;exact List.Sublist.refl _) (.inr (by apply List.Sublist.cons;exact List.Sublist.refl _)),?_⟩)),trivial⟩;refine Ta.each [7] (by kernel_rfl) rfl ⟨TaOp.mk rfl rfl rfl (Or.storeT (E:=en) 0 rfl rfl rfl rfl rfl rfl rfl rfl rfl rfl rfl ⟨S2.mkL lek (by apply List.Sublist.cons;exact List.Sublist.refl _) (.inl (by kernel_rfl)),?_⟩),trivial⟩;refine .nw 8 ?_;refine .dn ?_;exact fin _ _ _ ⟨oA,olc,oB,otc,oF,ofc,b26,lek,hO,⟨rfl,rfl,rfl,rfl,rfl,rfl,rfl,rfl,rfl,rfl,rfl,rfl,rfl,rfl,rfl,rfl,rfl,rfl,rfl,rfl,rfl,rfl,rfl,rfl,rfl,rfl,rfl,trivial⟩,(by exact List.Sublist.refl _)⟩
   · refine Ta.callL 2 (by kernel_rfl) rfl rfl rfl rfl rfl rfl rfl (by decide) (FnT.h (Know_c _ H6 bkD dA dlc dB dtc dF dfc hD6 sD hG6 bkD_al 1 (by decide) 2 2 6 6 ex_know.1 ex_know.2)) (by intro _ _ hh;exact hh.1) (by apply List.Sublist.cons;exact List.Sublist.refl _) (.inr (by apply List.Sublist.cons;exact List.Sublist.refl _)) (fun v Hk hv=> ?_);obtain⟨lek,oA,olc,oB,otc,oF,ofc,rfl,hO⟩:=hv;refine .nn 3 ?_;refine .nn 4 ?_;refine .nw 5 ?_;refine Ta.each [7] (by kernel_rfl) rfl ⟨TaOp.mk rfl rfl rfl (Or.storeT (E:=en) 0 rfl rfl rfl rfl rfl rfl rfl rfl rfl rfl rfl ⟨S2.mkL lek (by apply List.Sublist.cons;exact List.Sublist.refl _) (.inl (by kernel_rfl)),?_⟩),trivial⟩;refine .nw 8 ?_;refine .dn ?_;exact fin _ _ _ ⟨oA,olc,oB,otc,oF,ofc,b26,lek,hO,⟨rfl,rfl,rfl,rfl,rfl,rfl,rfl,rfl,rfl,rfl,rfl,rfl,rfl,rfl,rfl,rfl,rfl,rfl,rfl,rfl,rfl,rfl,rfl,rfl,rfl,rfl,rfl,trivial⟩,(by exact List.Sublist.refl _)⟩
 rintro H7 R' L' ⟨oA,olc,oB,otc,oF,ofc,b26,le7,hO7,hR,hL⟩;have tl7:=View.le_trans tl6 le7;have hD7:=hD6.le le7;have hE7:=hE6.le le7;have hG7:=glob_le hG tl7;refine Tc.dropB (R':= [(1,.pointer (some ⟨b1,0,none⟩)),(2,.pointer (some ⟨b2,0,none⟩)),(3,g3.val),(4,.int .i64 0),(5,g5.val),(6,.int .i64 2),(7,.int .i64 0),(8,g8.val),(9,.int .i64 0),(10,g10.val),(11,.int .i64 0),(12,.int .i64 0),(13,strV [50,50]),(14,.int .i64 2),(15,.int .i64 0),(16,strV [49,49,50]),(17,.int .i64 (-1)),(18,.int .i64 0),(19,.int .i64 1),(20,.int .i64 1),(21,.int .i64 0),(22,.int .i64 0),(23,.int .i64 0),(24,.bool false),(25,.int .i64 0),(26,.pointer (some ⟨b26,0,none⟩)),(27,.int .i64 0)]) (L':= [(b26,true,.cells ⟨(bkO.val oA olc oB otc).cells.toList⟩ 45 (0,0)),(b2,true,.cells ⟨(bkE.val eA elc eB etc).cells.toList⟩ 45 (0,0)),(b1,true,.cells ⟨(bkD.val dA dlc dB dtc).cells.toList⟩ 45 (0,0))]) ?_ hR hL;refine U3 ?_;refine .c rfl rfl rfl rfl (fun H hs=> .h (isV (Settled_c _ H bkO oA olc oB otc (hO7.bk.le hs.base) sO (glob_le hG7 hs.base) bkO_al) (congrArg settledV ex_setO))) ?_;refine U11 ?_;refine Tc.db (R':= [(1,.pointer (some ⟨b1,0,none⟩)),(2,.pointer (some ⟨b2,0,none⟩)),(3,g3.val),(4,.int .i64 0),(5,g5.val),(6,.int .i64 2),(7,.int .i64 0),(8,g8.val),(9,.int .i64 0),(10,g10.val),(11,.int .i64 0),(12,.int .i64 0),(13,strV [50,50]),(14,.int .i64 2),(15,.int .i64 0),(16,strV [49,49,50]),(17,.int .i64 (-1)),(18,.int .i64 0),(19,.int .i64 1),(20,.int .i64 1),(21,.int .i64 0),(22,.int .i64 0),(23,.int .i64 0),(24,.bool false),(25,.int .i64 0),(26,.pointer (some ⟨b26,0,none⟩)),(27,.int .i64 0),(28,.int .i64 2),(29,.int .i64 0),(30,.bool true),(31,.int .i64 0)]) (L':= [(b26,true,.cells ⟨(bkO.val oA olc oB otc).cells.toList⟩ 45 (0,0)),(b2,true,.cells ⟨(bkE.val eA elc eB etc).cells.toList⟩ 45 (0,0)),(b1,true,.cells ⟨(bkD.val dA dlc dB dtc).cells.toList⟩ 45 (0,0))]) ?_;have e2:bkD.needTo 1 (bkD.nf 1)=2:=ex_taken.2;refine U2 ?_;refine To.callF rfl rfl rfl rfl rfl rfl (by decide) (FnT.h (Taken_c _ H7 bkD dA dlc dB dtc hD7.bk sD hG7 bkD_al 1 (by decide))) (fun v H8 hv=> ?_);obtain⟨le8,g32,rfl,⟨ng32,lg32⟩,mg32⟩:=hv;rw[e2];refine U8 ?_;have tl8:=View.le_trans tl7 le8;have hD8:=hD7.le le8;have hE8:=hE7.le le8;have hO8:=hO7.le le8;have hG8:=glob_le hG tl8;refine U ?_;refine Tc.db (R':= [(1,.pointer (some ⟨b1,0,none⟩)),(2,.pointer (some ⟨b2,0,none⟩)),(3,g3.val),(4,.int .i64 0),(5,g5.val),(6,.int .i64 2),(7,.int .i64 0),(8,g8.val),(9,.int .i64 0),(10,g10.val),(11,.int .i64 0),(12,.int .i64 0),(13,strV [50,50]),(14,.int .i64 2),(15,.int .i64 0),(16,strV [49,49,50]),(17,.int .i64 (-1)),(18,.int .i64 0),(19,.int .i64 1),(20,.int .i64 1),(21,.int .i64 0),(22,.int .i64 0),(23,.int .i64 0),(24,.bool false),(25,.int .i64 0),(26,.pointer (some ⟨b26,0,none⟩)),(27,.int .i64 0),(28,.int .i64 2),(29,.int .i64 0),(30,.bool true),(31,.int .i64 0),(32,g32.val),(33,.int .i64 2),(34,.int .i64 0)]) (L':= [(b26,true,.cells ⟨(bkO.val oA olc oB otc).cells.toList⟩ 45 (0,0)),(b2,true,.cells ⟨(bkE.val eA elc eB etc).cells.toList⟩ 45 (0,0)),(b1,true,.cells ⟨(bkD.val dA dlc dB dtc).cells.toList⟩ 45 (0,0))]) ?_;refine U2 ?_;refine To.callF rfl rfl rfl rfl rfl rfl (by decide) (FnT.h (Slips_c _ H8 bkD dA dlc dB dtc hD8.bk sD hG8 bkD_al 0 (by decide))) (fun v H9 hv=> ?_);obtain⟨le9,g35,sm,rfl,⟨st1,st2⟩,⟨ng35,lg35⟩,mg35⟩:=hv;have e35:ddTo sm sm.length= [1,2]:=by rw[st1.len,ints_asc rfl st1 st2];exact ex_slips
 rw[e35] at ng35 lg35;refine U6 ?_;have tl9:=View.le_trans tl8 le9;have hD9:=hD8.le le9;have hE9:=hE8.le le9;have hO9:=hO8.le le9;have hG9:=glob_le hG tl9;refine U ?_;refine Tc.db (R':= [(1,.pointer (some ⟨b1,0,none⟩)),(2,.pointer (some ⟨b2,0,none⟩)),(3,g3.val),(4,.int .i64 0),(5,g5.val),(6,.int .i64 2),(7,.int .i64 0),(8,g8.val),(9,.int .i64 0),(10,g10.val),(11,.int .i64 0),(12,.int .i64 0),(13,strV [50,50]),(14,.int .i64 2),(15,.int .i64 0),(16,strV [49,49,50]),(17,.int .i64 (-1)),(18,.int .i64 0),(19,.int .i64 1),(20,.int .i64 1),(21,.int .i64 0),(22,.int .i64 0),(23,.int .i64 0),(24,.bool false),(25,.int .i64 0),(26,.pointer (some ⟨b26,0,none⟩)),(27,.int .i64 0),(28,.int .i64 2),(29,.int .i64 0),(30,.bool true),(31,.int .i64 0),(32,g32.val),(33,.int .i64 2),(34,.int .i64 0),(35,g35.val),(36,.int .i64 0)]) (L':= [(b26,true,.cells ⟨(bkO.val oA olc oB otc).cells.toList⟩ 45 (0,0)),(b2,true,.cells ⟨(bkE.val eA elc eB etc).cells.toList⟩ 45 (0,0)),(b1,true,.cells ⟨(bkD.val dA dlc dB dtc).cells.toList⟩ 45 (0,0))]) ?_;refine U2 ?_;refine .c rfl rfl rfl rfl (fun H hs=> .h (isV (Safe_c _ H bkD dA dlc dB dtc (hD9.bk.le hs.base) sD (glob_le hG9 hs.base) [51] (by decide)) ex_safe3)) ?_;refine U7 ?_;refine Tc.db (R':= [(1,.pointer (some ⟨b1,0,none⟩)),(2,.pointer (some ⟨b2,0,none⟩)),(3,g3.val),(4,.int .i64 0),(5,g5.val),(6,.int .i64 2),(7,.int .i64 0),(8,g8.val),(9,.int .i64 0),(10,g10.val),(11,.int .i64 0),(12,.int .i64 0),(13,strV [50,50]),(14,.int .i64 2),(15,.int .i64 0),(16,strV [49,49,50]),(17,.int .i64 (-1)),(18,.int .i64 0),(19,.int .i64 1),(20,.int .i64 1),(21,.int .i64 0),(22,.int .i64 0),(23,.int .i64 0),(24,.bool false),(25,.int .i64 0),(26,.pointer (some ⟨b26,0,none⟩)),(27,.int .i64 0),(28,.int .i64 2),(29,.int .i64 0),(30,.bool true),(31,.int .i64 0),(32,g32.val),(33,.int .i64 2),(34,.int .i64 0),(35,g35.val),(36,.int .i64 0),(37,.bool false),(38,.int .i64 0)]) (L':= [(b26,true,.cells ⟨(bkO.val oA olc oB otc).cells.toList⟩ 45 (0,0)),(b2,true,.cells ⟨(bkE.val eA elc eB etc).cells.toList⟩ 45 (0,0)),(b1,true,.cells ⟨(bkD.val dA dlc dB dtc).cells.toList⟩ 45 (0,0))]) ?_;refine U2 ?_;refine .c rfl rfl rfl rfl (fun H hs=> .h (isV (Safe_c _ H bkD dA dlc dB dtc (hD9.bk.le hs.base) sD (glob_le hG9 hs.base) [53] (by decide)) ex_safe5)) ?_;refine U7 ?_;refine Tc.db (R':= [(1,.pointer (some ⟨b1,0,none⟩)),(2,.pointer (some ⟨b2,0,none⟩)),(3,g3.val),(4,.int .i64 0),(5,g5.val),(6,.int .i64 2),(7,.int .i64 0),(8,g8.val),(9,.int .i64 0),(10,g10.val),(11,.int .i64 0),(12,.int .i64 0),(13,strV [50,50]),(14,.int .i64 2),(15,.int .i64 0),(16,strV [49,49,50]),(17,.int .i64 (-1)),(18,.int .i64 0),(19,.int .i64 1),(20,.int .i64 1),(21,.int .i64 0),(22,.int .i64 0),(23,.int .i64 0),(24,.bool false),(25,.int .i64 0),(26,.pointer (some ⟨b26,0,none⟩)),(27,.int .i64 0),(28,.int .i64 2),(29,.int .i64 0),(30,.bool true),(31,.int .i64 0),(32,g32.val),(33,.int .i64 2),(34,.int .i64 0),(35,g35.val),(36,.int .i64 0),(37,.bool false),(38,.int .i64 0),(39,.bool true),(40,.int .i64 0)]) (L':= [(b26,true,.cells ⟨(bkO.val oA olc oB otc).cells.toList⟩ 45 (0,0)),(b2,true,.cells ⟨(bkE.val eA elc eB etc).cells.toList⟩ 45 (0,0)),(b1,true,.cells ⟨(bkD.val dA dlc dB dtc).cells.toList⟩ 45 (0,0))]) ?_;refine U2 ?_;refine .c rfl rfl rfl rfl (fun H hs=> .h (isV (Spare_c _ H bkD dA dlc dB dtc (hD9.bk.le hs.base) sD (glob_le hG9 hs.base) 1 true) ex_spare)) ?_;refine U9 ?_;refine Tc.db (R':= [(1,.pointer (some ⟨b1,0,none⟩)),(2,.pointer (some ⟨b2,0,none⟩)),(3,g3.val),(4,.int .i64 0),(5,g5.val),(6,.int .i64 2),(7,.int .i64 0),(8,g8.val),(9,.int .i64 0),(10,g10.val),(11,.int .i64 0),(12,.int .i64 0),(13,strV [50,50]),(14,.int .i64 2),(15,.int .i64 0),(16,strV [49,49,50]),(17,.int .i64 (-1)),(18,.int .i64 0),(19,.int .i64 1),(20,.int .i64 1),(21,.int .i64 0),(22,.int .i64 0),(23,.int .i64 0),(24,.bool false),(25,.int .i64 0),(26,.pointer (some ⟨b26,0,none⟩)),(27,.int .i64 0),(28,.int .i64 2),(29,.int .i64 0),(30,.bool true),(31,.int .i64 0),(32,g32.val),(33,.int .i64 2),(34,.int .i64 0),(35,g35.val),(36,.int .i64 0),(37,.bool false),(38,.int .i64 0),(39,.bool true),(40,.int .i64 0),(41,strV [48]),(42,.bool true),(43,.int .i64 0)]) (L':= [(b26,true,.cells ⟨(bkO.val oA olc oB otc).cells.toList⟩ 45 (0,0)),(b2,true,.cells ⟨(bkE.val eA elc eB etc).cells.toList⟩ 45 (0,0)),(b1,true,.cells ⟨(bkD.val dA dlc dB dtc).cells.toList⟩ 45 (0,0))]) ?_;refine U ?_;refine .c rfl rfl rfl rfl (fun H hs=> .h (isV (Pulses_c _ H [49,50,48] (by decide)) ex_pulses)) ?_;refine U7 ?_;refine Tc.db (R':= [(1,.pointer (some ⟨b1,0,none⟩)),(2,.pointer (some ⟨b2,0,none⟩)),(3,g3.val),(4,.int .i64 0),(5,g5.val),(6,.int .i64 2),(7,.int .i64 0),(8,g8.val),(9,.int .i64 0),(10,g10.val),(11,.int .i64 0),(12,.int .i64 0),(13,strV [50,50]),(14,.int .i64 2),(15,.int .i64 0),(16,strV [49,49,50]),(17,.int .i64 (-1)),(18,.int .i64 0),(19,.int .i64 1),(20,.int .i64 1),(21,.int .i64 0),(22,.int .i64 0),(23,.int .i64 0),(24,.bool false),(25,.int .i64 0),(26,.pointer (some ⟨b26,0,none⟩)),(27,.int .i64 0),(28,.int .i64 2),(29,.int .i64 0),(30,.bool true),(31,.int .i64 0),(32,g32.val),(33,.int .i64 2),(34,.int .i64 0),(35,g35.val),(36,.int .i64 0),(37,.bool false),(38,.int .i64 0),(39,.bool true),(40,.int .i64 0),(41,strV [48]),(42,.bool true),(43,.int .i64 0),(44,.int .i64 13),(45,.int .i64 0)]) (L':= [(b26,true,.cells ⟨(bkO.val oA olc oB otc).cells.toList⟩ 45 (0,0)),(b2,true,.cells ⟨(bkE.val eA elc eB etc).cells.toList⟩ 45 (0,0)),(b1,true,.cells ⟨(bkD.val dA dlc dB dtc).cells.toList⟩ 45 (0,0))]) ?_;refine U ?_;refine .e (.bs (zz:=fun bw=> ?_));refine To.permL2 (L₁:= [(b26,true,.cells ⟨(bkO.val oA olc oB otc).cells.toList⟩ 45 (0,0)),(b2,true,.cells ⟨(bkE.val eA elc eB etc).cells.toList⟩ 45 (0,0)),(b1,true,.cells ⟨(bkD.val dA dlc dB dtc).cells.toList⟩ 45 (0,0))]++[(bw,true,.cells ⟨intsL [5,3,1]⟩ 3 (0,0))]) (by exact List.perm_append_comm) ?_;refine To.lift (L₂:= [(b26,true,.cells ⟨(bkO.val oA olc oB otc).cells.toList⟩ 45 (0,0)),(b2,true,.cells ⟨(bkE.val eA elc eB etc).cells.toList⟩ 45 (0,0)),(b1,true,.cells ⟨(bkD.val dA dlc dB dtc).cells.toList⟩ 45 (0,0))]) (L₁:= [(bw,true,.cells ⟨intsL [5,3,1]⟩ 3 (0,0))]) rfl (fun H10 hw=> ?_);have le10:=hw.base;have tl10:=View.le_trans tl9 le10;have hD10:=hD9.le le10;have hE10:=hE9.le le10;have hO10:=hO9.le le10;have hG10:=glob_le hG tl10;obtain⟨xc1,xc2,xc3,xc4,xc5⟩:=ex_cheap;have al5:(cheap (exAt [5,3,1]) 3 2 2).al=0:=by unfold ChSt.al;rw[xc4];rfl
 refine To.callF rfl rfl rfl rfl rfl rfl (by decide) (FnT.h (Cheapest_c _ H10 (some ⟨bw,0,none⟩) 3 3 (exAt [5,3,1]) (ints_lit [5,3,1] (hw.get (i:=0) rfl)) 2 2 (by decide) xc2 (by decide) (by decide))) (fun v H11 hv=> ?_);obtain⟨le11,ca,cn,cc,rfl,cn1,cs1⟩:=hv;rw[xc5] at cn1 cs1;rw[xc3,al5];refine U8 ?_;have tl11:=View.le_trans tl10 le11;have hD11:=hD10.le le11;have hE11:=hE10.le le11;have hO11:=hO10.le le11;have hG11:=glob_le hG tl11;refine U2 ?_;refine Tc.dropB (R':= [(1,.pointer (some ⟨b1,0,none⟩)),(2,.pointer (some ⟨b2,0,none⟩)),(3,g3.val),(4,.int .i64 0),(5,g5.val),(6,.int .i64 2),(7,.int .i64 0),(8,g8.val),(9,.int .i64 0),(10,g10.val),(11,.int .i64 0),(12,.int .i64 0),(13,strV [50,50]),(14,.int .i64 2),(15,.int .i64 0),(16,strV [49,49,50]),(17,.int .i64 (-1)),(18,.int .i64 0),(19,.int .i64 1),(20,.int .i64 1),(21,.int .i64 0),(22,.int .i64 0),(23,.int .i64 0),(24,.bool false),(25,.int .i64 0),(26,.pointer (some ⟨b26,0,none⟩)),(27,.int .i64 0),(28,.int .i64 2),(29,.int .i64 0),(30,.bool true),(31,.int .i64 0),(32,g32.val),(33,.int .i64 2),(34,.int .i64 0),(35,g35.val),(36,.int .i64 0),(37,.bool false),(38,.int .i64 0),(39,.bool true),(40,.int .i64 0),(41,strV [48]),(42,.bool true),(43,.int .i64 0),(44,.int .i64 13),(45,.int .i64 0),(46,.slice ca cn cc),(47,.int .i64 18),(48,.int .i64 0)]) (L':= [(b26,true,.cells ⟨(bkO.val oA olc oB otc).cells.toList⟩ 45 (0,0)),(b2,true,.cells ⟨(bkE.val eA elc eB etc).cells.toList⟩ 45 (0,0)),(b1,true,.cells ⟨(bkD.val dA dlc dB dtc).cells.toList⟩ 45 (0,0))]) ?_ ⟨rfl,rfl,rfl,rfl,rfl,rfl,rfl,rfl,rfl,rfl,rfl,rfl,rfl,rfl,rfl,rfl,rfl,rfl,rfl,rfl,rfl,rfl,rfl,rfl,rfl,rfl,rfl,rfl,rfl,rfl,rfl,rfl,rfl,rfl,rfl,rfl,rfl,rfl,rfl,rfl,rfl,rfl,rfl,rfl,rfl,rfl,rfl,rfl,trivial⟩ (by exact List.Sublist.refl _);(iterate 72 refine U ?_);refine Tc.db (R':= [(1,.pointer (some ⟨b1,0,none⟩)),(2,.pointer (some ⟨b2,0,none⟩)),(3,g3.val),(4,.int .i64 0),(5,g5.val),(6,.int .i64 2),(7,.int .i64 0),(8,g8.val),(9,.int .i64 0),(10,g10.val),(11,.int .i64 0),(12,.int .i64 0),(13,strV [50,50]),(14,.int .i64 2),(15,.int .i64 0),(16,strV [49,49,50]),(17,.int .i64 (-1)),(18,.int .i64 0),(19,.int .i64 1),(20,.int .i64 1),(21,.int .i64 0),(22,.int .i64 0),(23,.int .i64 0),(24,.bool false),(25,.int .i64 0),(26,.pointer (some ⟨b26,0,none⟩)),(27,.int .i64 0),(28,.int .i64 2),(29,.int .i64 0),(30,.bool true),(31,.int .i64 0),(32,g32.val),(33,.int .i64 2),(34,.int .i64 0),(35,g35.val),(36,.int .i64 0),(37,.bool false),(38,.int .i64 0),(39,.bool true),(40,.int .i64 0),(41,strV [48]),(42,.bool true),(43,.int .i64 0),(44,.int .i64 13),(45,.int .i64 0),(46,.slice ca cn cc),(47,.int .i64 18),(48,.int .i64 0)]) (L':= [(b26,true,.cells ⟨(bkO.val oA olc oB otc).cells.toList⟩ 45 (0,0)),(b2,true,.cells ⟨(bkE.val eA elc eB etc).cells.toList⟩ 45 (0,0)),(b1,true,.cells ⟨(bkD.val dA dlc dB dtc).cells.toList⟩ 45 (0,0))]) ?_;have up:∀ {A B C:View},A.le B→B.le C→A.le C:=View.le_trans;have w3:=fun(H':View) (h':H11.le H') (bs:Nat) (k1:H' bs=some (true,.cells ⟨strsV [[49,50],[49,51]]⟩ 9 (0,0)))=> SameWords_c (Mp prog) H' (g3.blk.map fun b=> ⟨b,0,none⟩) (some ⟨bs,0,none⟩) g3.n ([[49,50],[49,51]]:List (List UInt8)).length g3.cap ([[49,50],[49,51]]:List (List UInt8)).length _ _ (strs_of (g0:=g3) g3 (fun x hx=> h' _ _ ((up (up (up (up (up (up (up le4 le5) le6) le7) le8) le9) le10) le11) _ _ (mg3 x hx).1)) lg3 rfl rfl) (strs_lit [[49,50],[49,51]] k1) (by rw[ng3];decide) (by decide) true (words_true [[49,50],[49,51]] ng3);have w8:=fun(H':View) (h':H11.le H') (bs:Nat) (k1:H' bs=some (true,.cells ⟨strsV [[49,49,50],[50,50]]⟩ 9 (0,0)))=> SameWords_c (Mp prog) H' (g8.blk.map fun b=> ⟨b,0,none⟩) (some ⟨bs,0,none⟩) g8.n ([[49,49,50],[50,50]]:List (List UInt8)).length g8.cap ([[49,49,50],[50,50]]:List (List UInt8)).length _ _ (strs_of (g0:=g8) g8 (fun x hx=> h' _ _ ((up (up (up (up (up le6 le7) le8) le9) le10) le11) _ _ (mg8 x hx).1)) lg8 rfl rfl) (strs_lit [[49,49,50],[50,50]] k1) (by rw[ng8];decide) (by decide) true (words_true [[49,49,50],[50,50]] ng8);have c5:=fun(H':View) (h':H11.le H') (bs:Nat) (k1:H' bs=some (true,.cells ⟨intsL [0,0,2]⟩ 110 (0,0)))=> claims_c (Mp prog) H' (g5.blk.map fun b=> ⟨b,0,none⟩) (some ⟨bs,0,none⟩) g5.n ([0,0,2]:List Int).length g5.cap ([0,0,2]:List Int).length (fun i=> bkD.claimOf (i:Nat)) _ (by rw[ng5];exact cl_at g5 (fun x hx=> h' _ _ ((up (up (up (up (up (up le5 le6) le7) le8) le9) le10) le11) _ _ (mg5 x hx).1)) lg5 ng5) (ints_lit [0,0,2] k1) (by rw[ng5];decide) (by decide) true (by rw[ng5];rw[decide_eq_true (by rfl)];show(true&&allB _ 3)=true;rw[(allB_iff _).2 (three (decide_eq_true ex_clD.1.1) (decide_eq_true ex_clD.1.2.1) (decide_eq_true ex_clD.1.2.2))];rfl);have c10:=fun(H':View) (h':H11.le H') (bs:Nat) (k1:H' bs=some (true,.cells ⟨intsL [2,2,0]⟩ 110 (0,0)))=> claims_c (Mp prog) H' (g10.blk.map fun b=> ⟨b,0,none⟩) (some ⟨bs,0,none⟩) g10.n ([2,2,0]:List Int).length g10.cap ([2,2,0]:List Int).length (fun i=> bkE.claimOf (i:Nat)) _ (by rw[ng10];exact cl_at g10 (fun x hx=> h' _ _ ((up (up (up (up le7 le8) le9) le10) le11) _ _ (mg10 x hx).1)) lg10 ng10) (ints_lit [2,2,0] k1) (by rw[ng10];decide) (by decide) true (by rw[ng10];rw[decide_eq_true (by rfl)];show(true&&allB _ 3)=true;rw[(allB_iff _).2 (three (decide_eq_true ex_clE.1.1) (decide_eq_true ex_clE.1.2.1) (decide_eq_true ex_clE.1.2.2))];rfl);refine U2 ?_;refine .e (.bs (zz:=fun x1=> ?_));refine .c rfl rfl rfl rfl (fun H hs=> .h (w3 H hs.base x1 (hs.get (i:=0) rfl))) ?_;refine U3 ?_;refine .e (.bs (zz:=fun x2=> ?_));refine .c rfl rfl rfl rfl (fun H hs=> .h (c5 H hs.base x2 (hs.get (i:=0) rfl))) ?_;refine U8 ?_;refine .e (.bs (zz:=fun x3=> ?_));refine .c rfl rfl rfl rfl (fun H hs=> .h (w8 H hs.base x3 (hs.get (i:=0) rfl))) ?_;refine U4 ?_;refine .e (.bs (zz:=fun x4=> ?_));refine .c rfl rfl rfl rfl (fun H hs=> .h (c10 H hs.base x4 (hs.get (i:=0) rfl))) ?_;refine U37 ?_;refine Tc.db (R':= [(1,.pointer (some ⟨b1,0,none⟩)),(2,.pointer (some ⟨b2,0,none⟩)),(3,g3.val),(4,.int .i64 0),(5,g5.val),(6,.int .i64 2),(7,.int .i64 0),(8,g8.val),(9,.int .i64 0),(10,g10.val),(11,.int .i64 0),(12,.int .i64 0),(13,strV [50,50]),(14,.int .i64 2),(15,.int .i64 0),(16,strV [49,49,50]),(17,.int .i64 (-1)),(18,.int .i64 0),(19,.int .i64 1),(20,.int .i64 1),(21,.int .i64 0),(22,.int .i64 0),(23,.int .i64 0),(24,.bool false),(25,.int .i64 0),(26,.pointer (some ⟨b26,0,none⟩)),(27,.int .i64 0),(28,.int .i64 2),(29,.int .i64 0),(30,.bool true),(31,.int .i64 0),(32,g32.val),(33,.int .i64 2),(34,.int .i64 0),(35,g35.val),(36,.int .i64 0),(37,.bool false),(38,.int .i64 0),(39,.bool true),(40,.int .i64 0),(41,strV [48]),(42,.bool true),(43,.int .i64 0),(44,.int .i64 13),(45,.int .i64 0),(46,.slice ca cn cc),(47,.int .i64 18),(48,.int .i64 0)]) (L':= [(b26,true,.cells ⟨(bkO.val oA olc oB otc).cells.toList⟩ 45 (0,0)),(b2,true,.cells ⟨(bkE.val eA elc eB etc).cells.toList⟩ 45 (0,0)),(b1,true,.cells ⟨(bkD.val dA dlc dB dtc).cells.toList⟩ 45 (0,0))]) ?_;have c32:=fun(H':View) (h':H11.le H') (bs:Nat) (k1:H' bs=some (true,.cells ⟨intsL [2,0]⟩ 110 (0,0)))=> claims_c (Mp prog) H' (g32.blk.map fun b=> ⟨b,0,none⟩) (some ⟨bs,0,none⟩) g32.n ([2,0]:List Int).length g32.cap ([2,0]:List Int).length (bkD.takenAt 1) _ (by rw[ng32];exact cl_at g32 (fun x hx=> h' _ _ ((up (up le9 le10) le11) _ _ (mg32 x hx).1)) lg32 ng32) (ints_lit [2,0] k1) (by rw[ng32];decide) (by decide) true (by rw[ng32];rw[decide_eq_true (by rfl)];show(true&&allB _ 2)=true;rw[(allB_iff _).2 (two (decide_eq_true ex_taken.1.1) (decide_eq_true ex_taken.1.2))];rfl);have n35:=fun(H':View) (h':H11.le H') (bs:Nat) (k1:H' bs=some (true,.cells ⟨intsL [1,2]⟩ 3 (0,0)))=> SameNums_eq (Mp prog) H' (g35.blk.map fun b=> ⟨b,0,none⟩) (some ⟨bs,0,none⟩) 2 g35.cap 2 (exAt [1,2]) (exAt [1,2]) (cl_at g35 (fun x hx=> h' _ _ ((up le10 le11) _ _ (mg35 x hx).1)) (lg35.trans (clL_ints _)) ng35) (ints_lit [1,2] k1) (by decide) (fun _ _=> rfl);have w46:=fun(H':View) (h':H11.le H') (bs:Nat) (k1:H' bs=some (true,.cells ⟨strsV [[49],[50,49],[50,50]]⟩ 9 (0,0)))=> SameWords_c (Mp prog) H' ca (some ⟨bs,0,none⟩) cn ([[49],[50,49],[50,50]]:List (List UInt8)).length cc ([[49],[50,49],[50,50]]:List (List UInt8)).length _ _ (strs_src (cs1.mono (View.le_trans (View.le_refl H11) h')) cn1) (strs_lit [[49],[50,49],[50,50]] k1) (by rw[cn1];decide) (by decide) true (words_true [[49],[50,49],[50,50]] cn1);rw[show g35.val=.slice (g35.blk.map fun b=> ⟨b,0,none⟩) 2 g35.cap by unfold Gl.val;rw[ng35];rfl];refine U12 ?_;refine .e (.bs (zz:=fun y1=> ?_));refine .c rfl rfl rfl rfl (fun H hs=> .h (c32 H hs.base y1 (hs.get (i:=0) rfl))) ?_;refine U7 ?_;refine .e (.bs (zz:=fun y2=> ?_));refine .c rfl rfl rfl rfl (fun H hs=> .h (n35 H hs.base y2 (hs.get (i:=0) rfl))) ?_;refine U18 ?_;refine .e (.bs (zz:=fun y3=> ?_));refine .c rfl rfl rfl rfl (fun H hs=> .h (w46 H hs.base y3 (hs.get (i:=0) rfl))) ?_;refine U7 ?_;refine .rt hK func15 results15 [_] ?_;exact fun H' hs=> ⟨View.le_trans tl11 hs.base,rfl⟩
end Go.Proofs.YtldmfjcgjdchcaaGreatDoor
