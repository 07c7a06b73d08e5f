/-
 Texts of the proofs over baudot/dial.
-/
import Derived.Test.YtcagolloalgfiaaGreatDoorW02
import Derived.Laws.RangeAny
namespace Go.RL
open Go.Conc Go.Proofs Go.Proofs.YtcagolloalgfiaaGreatDoor
set_option maxRecDepth 10000
section
variable {M:Md Tryz.prog}{St:View->Goroutine->Prop}{n:Nat}{b:FB}{H₀:View}{cs:List Frame}{R:Rg}{L:Bl}{ds:List Deferred}{k:List Item}{dl:List (Option Tmp)}{l:List Oper}{o:Oper}{d:Nat}{v:Value}{main:Bool}{sh:Shp}{J:Goroutine->Prop}
theorem To.m {x:Operand}(kk:To M St n b H₀ cs dl ((d,v)::R) L ds l k)(hop:o.op=.move x:=by exact rfl)(hx:evR R x=some v:=by exact rfl)(h1:wantB dl R o=some true:=by exact rfl)(h2:isDefer o.op=false:=by exact rfl)(h3:o.dst=some d:=by exact rfl)(h4:d<n:=by decide):To M St n b H₀ cs dl R L ds (o::l) k:=To.op h1 h2 (Or.ofV (OpV.move hop hx) h3 h4 kk)
theorem To.g {x:Operand}(kk:To M St n b H₀ cs dl ((d,v)::R) L ds l k)(hop:o.op=.assign x:=by exact rfl)(hx:evR R x=some v:=by exact rfl)(h1:wantB dl R o=some true:=by exact rfl)(h2:isDefer o.op=false:=by exact rfl)(h3:o.dst=some d:=by exact rfl)(h4:d<n:=by decide):To M St n b H₀ cs dl R L ds (o::l) k:=To.op h1 h2 (Or.ofV (OpV.assign hop hx) h3 h4 kk)
theorem To.i {op:BinOp}{t u:TypeId}{x y:Operand}{ik:IntKind}{p q:Int}(kk:To M St n b H₀ cs dl ((d,v)::R) L ds l k)(hop:o.op=.binOp op t x y u:=by exact rfl)(hx:evR R x=some (.int ik p):=by exact rfl)(hy:evR R y=some (.int ik q):=by exact rfl)(h1:wantB dl R o=some true:=by exact rfl)(h2:isDefer o.op=false:=by exact rfl)(h3:o.dst=some d:=by exact rfl)(h4:d<n:=by decide)(z:intBin op ik p q=some v):To M St n b H₀ cs dl R L ds (o::l) k:=To.op h1 h2 (Or.ofV (OpV.int hop hx hy z) h3 h4 kk)
theorem To.j {op:BinOp}{t u:TypeId}{x y:Operand}{ik:IntKind}{p q:Int}(kk:To M St n b H₀ cs dl ((d,v)::R) L ds l k)(hop:o.op=.binOp op t x y u:=by exact rfl)(hx:evR R x=some (.int ik p):=by exact rfl)(hy:evR R y=some (.int ik q):=by exact rfl)(z:intBin op ik p q=some v:=by first|exact add_in (by omega) (by omega)|exact sub_in (by omega) (by omega)|exact lss_t (by omega)|exact lss_f (by omega)|exact neq_f (by omega)|exact neq_t (by omega)|exact eql_t (by omega)|exact eql_f (by omega)|exact geq_t (by omega)|exact geq_f (by omega)|exact gtr_t (by omega)|exact gtr_f (by omega)|exact leq_t (by omega)|exact leq_f (by omega))(h1:wantB dl R o=some true:=by exact rfl)(h2:isDefer o.op=false:=by exact rfl)(h3:o.dst=some d:=by exact rfl)(h4:d<n:=by decide):To M St n b H₀ cs dl R L ds (o::l) k:=To.op h1 h2 (Or.ofV (OpV.int hop hx hy z) h3 h4 kk)
theorem To.mm {o':Oper}{d':Nat}{v':Value}{x y:Operand}(kk:To M St n b H₀ cs dl ((d',v')::(d,v)::R) L ds l k)(hop:o.op=.move x:=by exact rfl)(hx:evR R x=some v:=by exact rfl)(h1:wantB dl R o=some true:=by exact rfl)(h2:isDefer o.op=false:=by exact rfl)(h3:o.dst=some d:=by exact rfl)(h4:d<n:=by decide)(gop:o'.op=.move y:=by exact rfl)(gx:evR ((d,v)::R) y=some v':=by exact rfl)(g1:wantB dl ((d,v)::R) o'=some true:=by exact rfl)(g2:isDefer o'.op=false:=by exact rfl)(g3:o'.dst=some d':=by exact rfl)(g4:d'<n:=by decide):To M St n b H₀ cs dl R L ds (o::o'::l) k:=To.m (To.m kk gop gx g1 g2 g3 g4) hop hx h1 h2 h3 h4
theorem Tc.r {id:Nat}{ops:Array Oper}(h:To M St n b H₀ cs dl R L ds l k)(hl:ops.toList=l:=by exact rfl)(hdl:l.map (fun o:Oper=> o.dst)=dl:=by exact rfl):Tc M St n b H₀ cs R L ds (.code (.region id ops false)::k):=Tc.region hl hdl h
theorem Tc.sr {id:Nat}{ops:Array Oper}{y:Code}(h:To M St n b H₀ cs dl R L ds l (.code y::k))(hl:ops.toList=l:=by exact rfl)(hdl:l.map (fun o:Oper=> o.dst)=dl:=by exact rfl):Tc M St n b H₀ cs R L ds (.code (.seq (.region id ops false) y)::k):=Tc.seq (Tc.region hl hdl h)
theorem Tc.db {L':Bl}{todo:List Item}{R':Rg}(h:Tc M St n b H₀ cs R' L' ds todo)(hR:AllIn R' R:=by repeat (first|exact trivial|refine⟨rfl,?_⟩))(hL:L'.Sublist L:=by repeat (first|exact List.Sublist.refl _|exact List.nil_sublist _|exact List.sublist_append_left _ _|apply List.Sublist.cons_cons|apply List.Sublist.cons)):Tc M St n b H₀ cs R L ds todo:=Tc.dropB h hR hL
theorem Tc.rt {fn:Func}{c:Frame}{Q:Value->View->Prop}{f:FuncId}{rs:List ResultVar}(hK:∀v H',Q v H'->T M St H' (G (c.finish v) cs))(hf:Tryz.prog.funcs[f]? =some fn)(hrs:fn.results=rs.toArray)(vs:List Value)(h:∀H',SymSt H₀ L H'->Q (packV vs) H')
 (ho:ResOk en R L rs vs:=by repeat (first|exact trivial|refine⟨rfl,?_⟩|refine⟨⟨0,_,_,_,_,_,_,_,rfl,rfl,rfl,rfl⟩,?_⟩|refine⟨⟨1,_,_,_,_,_,_,_,rfl,rfl,rfl,rfl⟩,?_⟩|refine⟨⟨2,_,_,_,_,_,_,_,rfl,rfl,rfl,rfl⟩,?_⟩|refine⟨⟨3,_,_,_,_,_,_,_,rfl,rfl,rfl,rfl⟩,?_⟩|refine⟨⟨4,_,_,_,_,_,_,_,rfl,rfl,rfl,rfl⟩,?_⟩|refine⟨⟨5,_,_,_,_,_,_,_,rfl,rfl,rfl,rfl⟩,?_⟩|refine⟨⟨6,_,_,_,_,_,_,_,rfl,rfl,rfl,rfl⟩,?_⟩)):Tc M St n ⟨f,.normal,none⟩ H₀ (c::cs) R L [] (.code .ret::k):=Tc.retN (E:=en) hK hf hrs ho h
theorem Tc.ov {fn:Func}{c:Frame}{Q:Value->View->Prop}{f:FuncId}{rs:List ResultVar}(hK:∀v H',Q v H'->T M St H' (G (c.finish v) cs))(hf:Tryz.prog.funcs[f]? =some fn)(hrs:fn.results=rs.toArray)(vs:List Value)(h:∀H',SymSt H₀ L H'->Q (packV vs) H')
 (ho:ResOk en R L rs vs:=by repeat (first|exact trivial|refine⟨rfl,?_⟩|refine⟨⟨0,_,_,_,_,_,_,_,rfl,rfl,rfl,rfl⟩,?_⟩|refine⟨⟨1,_,_,_,_,_,_,_,rfl,rfl,rfl,rfl⟩,?_⟩|refine⟨⟨2,_,_,_,_,_,_,_,rfl,rfl,rfl,rfl⟩,?_⟩|refine⟨⟨3,_,_,_,_,_,_,_,rfl,rfl,rfl,rfl⟩,?_⟩|refine⟨⟨4,_,_,_,_,_,_,_,rfl,rfl,rfl,rfl⟩,?_⟩|refine⟨⟨5,_,_,_,_,_,_,_,rfl,rfl,rfl,rfl⟩,?_⟩|refine⟨⟨6,_,_,_,_,_,_,_,rfl,rfl,rfl,rfl⟩,?_⟩)):Tc M St n ⟨f,.normal,none⟩ H₀ (c::cs) R L [] []:=Tc.overN (E:=en) hK hf hrs ho h
theorem To.bo {e:TypeId}{x:Operand}(kk:∀blk,To M St n b H₀ cs dl ((d,.pointer (some ⟨blk,0,none⟩))::R) ((blk,true,.cells ⟨v.cells.toList⟩ e (0,0))::L) ds l k)(hop:o.op=.box e x:=by exact rfl)(hx:evR R x=some v:=by exact rfl)(h1:wantB dl R o=some true:=by exact rfl)(h2:isDefer o.op=false:=by exact rfl)(h3:o.dst=some d:=by exact rfl)(h4:d<n:=by decide):To M St n b H₀ cs dl R L ds (o::l) k:=To.op h1 h2 (Or.box hop h3 h4 hx kk)
theorem To.al {e:TypeId}{r:TyRow}(kk:∀blk,To M St n b H₀ cs dl ((d,.pointer (some ⟨blk,0,none⟩))::R) ((blk,true,.cells ⟨r.zero.cells.toList⟩ e (0,0))::L) ds l k)(hop:o.op=.alloc e:=by exact rfl)(ht:en.ty e=some r:=by exact rfl)(h1:wantB dl R o=some true:=by exact rfl)(h2:isDefer o.op=false:=by exact rfl)(h3:o.dst=some d:=by exact rfl)(h4:d<n:=by decide):To M St n b H₀ cs dl R L ds (o::l) k:=To.op h1 h2 (Or.alloc (E:=en) hop ht h3 h4 kk)
theorem Ta.z {H₁:View}(i:Nat){md:Region.Mode}{ops:Array Oper}{B:List Nat}{Ls L₁:Bl}{fuel:Nat}{listed:Array Bool}(hi:ops[i]? =some o)
 (hv:∀H tmps,SymSt H₀ L H->RegOk n R tmps->OpVal M o tmps H fun u H'=> u=v/\H.le H')
 (h:Ta M St n b H₁ cs (S2 H₀ B Ls L) md ops fuel (listed.setIfInBounds i true) ((d,v)::R) L₁ ds k) (hc:takeOk md ops B listed i=true:=by kernel_rfl) (hd:o.dst=some d:=by exact rfl) (hn:d<n:=by decide) (hnd:isDefer o.op=false:=by exact rfl) (hw:wantB (ops.toList.map (fun o:Oper=> o.dst)) R o=some true:=by exact rfl):
 Ta M St n b H₁ cs (S2 H₀ B Ls L) md ops (fuel+1) listed R L₁ ds k:=Ta.tk i hc hi hd hn hnd hw hv h
end
theorem CallT.en {M:Md Tryz.prog}{f:FuncId}{fn:Func}{body:Code}{n:Nat}{vs:List Value}{H:View}{Q:Value->View->Prop}(hf:Tryz.prog.funcs[f]? =some fn)(hn:fn.ntmps=n)
 (h:∀St c cs,(∀v H',Q v H'->T M St H' (G (c.finish v) cs))->Tc M St n ⟨f,.normal,none⟩ H (c::cs) (argR vs) [] [] [.code body]) (hb:fn.body=some body:=by exact rfl) (hv:vs.length<=n:=by exact Nat.le_of_ble_eq_true rfl):CallT M f vs.toArray H Q:=CallT.enter hf hb hn hv (SymSt.nil _) h
theorem okB {H:View}{L:Bl}{v:Value}:∀H':View,SymSt H L H'->H.le H'/\v=v:=fun _ hs=> ⟨hs.base,rfl⟩
theorem CallT.is {P:Program}{M:Md P}{f:FuncId}{az:Array Value}{H:View}{w:Value}(w':Value)(e:w=w')(h:CallT M f az H fun v H'=> H.le H'/\v=w):CallT M f az H fun v H'=> H.le H'/\v=w':=e▸h
section
variable {n:Nat}{H₀:View}{R:Rg}{L:Bl}{o:Oper}{v:Value}
theorem OpV.a(h:OpV Tryz.prog n H₀ R L o v:=by first|exact .mv|exact .sg|exact .fa|exact .pk|exact .et|exact .ln|exact .nt|exact .nk|exact .bu|exact .mf|exact .cv|exact .eb|exact .nb|exact .ia|exact .ib|exact .fd|exact .ld 0|exact .ld 1|exact .ld 2|exact .ld 3|exact .ld 4|exact .ld 5|exact .ld 6|exact .l0|exact .it (zz:=by first|assumption|exact sub_in oM oM|exact add_in oM oM|exact lss_t oM|exact lss_f oM|exact neq_f oM|exact neq_t oM|exact eql_t oM|exact eql_f oM|exact geq_t oM|exact geq_f oM|exact gtr_t oM|exact gtr_f oM|exact leq_t oM|exact leq_f oM|exact rfl)|exact OpV.lenS (E:=en) rfl rfl rfl rfl rfl rfl rfl|exact OpV.strB rfl rfl rfl (by first|assumption|exact rfl)|exact OpV.indexS (E:=en) rfl rfl rfl rfl rfl oM (by assumption)):OpV Tryz.prog n H₀ R L o v:=h
end
section
variable {M:Md Tryz.prog}{St:View->Goroutine->Prop}{n:Nat}{b:FB}{H₀ H₁:View}{cs:List Frame}{R:Rg}{L Ls L₁:Bl}{ds:List Deferred}{k:List Item}{md:Region.Mode}{ops:Array Oper}{fuel:Nat}{listed:Array Bool}{B C:List Nat}{o:Oper}{d:Nat}{v:Value}{S:Array Bool->View->Prop}
theorem Ta.nn(i:Nat)(h:Ta M St n b H₁ cs (S2 H₀ B Ls L) md ops fuel (listed.setIfInBounds i true) ((d,v)::R) L₁ ds k)(hi:ops[i]? =some o:=by exact rfl)
 (hc:takeOk md ops B listed i=true:=by kernel_rfl) (ho:OpV Tryz.prog n H₀ R L o v:=by exact .a) (hw:wantB (ops.toList.map (fun o:Oper=> o.dst)) R o=some true:=by exact rfl) (hd:o.dst=some d:=by exact rfl) (hn:d<n:=by decide) (hnd:isDefer o.op=false:=by exact rfl):Ta M St n b H₁ cs (S2 H₀ B Ls L) md ops (fuel+1) listed R L₁ ds k:=Ta.tk i hc hi hd hn hnd hw (OpV.take ho) h
theorem Ta.nw(i:Nat)(h:Ta M St n b H₁ cs (S2 H₀ B Ls L) md ops fuel (listed.setIfInBounds i true) ((d,v)::R) L₁ ds k)(hi:ops[i]? =some o:=by exact rfl)
  (hc:takeOk md ops [] listed i=true:=by kernel_rfl) (hb:B.contains i=false:=by exact rfl) (hv:wantB (ops.toList.map (fun o:Oper=> o.dst)) R o=some false/\v=undef\/wantB (ops.toList.map (fun o:Oper=> o.dst)) R o=some true/\OpV Tryz.prog n H₀ R Ls o v:=by first|exact .inl ⟨rfl,rfl⟩|exact .inr ⟨rfl,.a⟩) (hd:o.dst=some d:=by exact rfl) (hn:d<n:=by decide) (hnd:isDefer o.op=false:=by exact rfl):Ta M St n b H₁ cs (S2 H₀ B Ls L) md ops (fuel+1) listed R L₁ ds k:=by
 rcases hv with ⟨hw,rfl⟩|⟨hw,ho⟩
 ·exact Ta.ps i hc hb hi hd hn hnd hw h
 ·exact Ta.tkw i hc hb hi hd hn hnd hw (OpV.take ho) h
theorem Ta.oo(i:Nat)(h:Ta M St n b H₀ cs (S3 H₀ B C Ls L) md ops fuel (listed.setIfInBounds i true) ((d,v)::R) L₁ ds k)(hi:ops[i]? =some o:=by exact rfl)
 (hc:takeOkC md ops B C listed i=true:=by kernel_rfl) (ho:OpV Tryz.prog n H₀ R L o v:=by exact .a) (hw:wantB (ops.toList.map (fun o:Oper=> o.dst)) R o=some true:=by exact rfl) (hd:o.dst=some d:=by exact rfl) (hn:d<n:=by decide) (hnd:isDefer o.op=false:=by exact rfl):Ta M St n b H₀ cs (S3 H₀ B C Ls L) md ops (fuel+1) listed R L₁ ds k:=Ta.tkC i hc hi hd hn hnd hw (OpV.take ho) h
theorem Ta.ow(i:Nat)(h:Ta M St n b H₀ cs (S3 H₀ B C Ls L) md ops fuel (listed.setIfInBounds i true) ((d,v)::R) L₁ ds k)(hi:ops[i]? =some o:=by exact rfl)
  (hc:takeOkC md ops [] C listed i=true:=by kernel_rfl) (hb:B.contains i=false:=by exact rfl) (hv:wantB (ops.toList.map (fun o:Oper=> o.dst)) R o=some false/\v=undef\/wantB (ops.toList.map (fun o:Oper=> o.dst)) R o=some true/\OpV Tryz.prog n H₀ R Ls o v:=by first|exact .inl ⟨rfl,rfl⟩|exact .inr ⟨rfl,.a⟩) (hd:o.dst=some d:=by exact rfl) (hn:d<n:=by decide) (hnd:isDefer o.op=false:=by exact rfl):Ta M St n b H₀ cs (S3 H₀ B C Ls L) md ops (fuel+1) listed R L₁ ds k:=by
 rcases hv with ⟨hw,rfl⟩|⟨hw,ho⟩
 ·exact Ta.psC i hc hb hi hd hn hnd hw h
 ·exact Ta.tkwC i hc hb hi hd hn hnd hw (OpV.take ho) h
theorem Ta.ea(i:Nat)(ho:ops[i]? =some o)(h:Or M n H₀ R L o fun R' L'=> (∀H,SymSt H₀ L' H->S (listed.setIfInBounds i true) H)/\Ta M St n b H₀ cs S md ops fuel (listed.setIfInBounds i true) R' L' ds k)(hr:Region.ready md ops listed= [i]:=by kernel_rfl)(hd:isDefer o.op=false:=by exact rfl)(hw:wantB (ops.toList.map (fun o:Oper=> o.dst)) R o=some true:=by exact rfl):Ta M St n b H₀ cs S md ops (fuel+1) listed R L ds k:=Ta.each [i] hr rfl ⟨TaOp.mk ho hd hw h,trivial⟩
theorem Ta.dn(h:Tc M St n b H₀ cs R L ds k)(hr:Region.ready md ops listed= []:=by kernel_rfl):Ta M St n b H₀ cs S md ops fuel listed R L ds k:=Ta.done hr h
theorem Ta.e(i j:Nat){t:TypeId}{x y:Operand}{r:TyRow}{blk off:Nat}{c c':List Value}{e:TypeId}(h:Ta M St n b H₀ cs (S2 H₁ B Ls L) md ops fuel (listed.setIfInBounds i true) R (L₁.set j (blk,true,.cells ⟨c'⟩ e (0,0))) ds k)(hi:ops[i]? =some o:=by exact rfl)(hop:o.op=.store t x y:=by exact rfl)(hx:evR R x=some (.pointer (some ⟨blk,off,none⟩)):=by exact rfl)(hy:evR R y=some v:=by exact rfl)(hj:L₁[j]? =some (blk,true,.cells ⟨c⟩ e (0,0)):=by exact rfl)(ht:en.ty t=some r:=by exact rfl)(hz:Nat.beq v.cells.toList.length r.size=true:=by exact rfl)(h0:Nat.beq r.size 0=false:=by exact rfl)(hl:Nat.ble (off+r.size) c.length=true:=by first|exact rfl|assumption)(hs:v.cells.toList.all single=true:=by exact rfl)(hd:o.dst=none:=by exact rfl)(hc:stL c off v.cells.toList=c':=by first|assumption|exact rfl)
  (hr:Region.ready md ops listed= [i]:=by kernel_rfl) (hnd:isDefer o.op=false:=by exact rfl) (hw:wantB (ops.toList.map (fun o:Oper=> o.dst)) R o=some true:=by exact rfl) (hS:∀H,SymSt H₀ (L₁.set j (blk,true,.cells ⟨c'⟩ e (0,0))) H->S2 H₁ B Ls L (listed.setIfInBounds i true) H:=by exact S2.mk (by repeat (first|exact List.Sublist.refl _|exact List.nil_sublist _|exact List.sublist_append_left _ _|apply List.Sublist.cons_cons|apply List.Sublist.cons)) (.inl kR)):Ta M St n b H₀ cs (S2 H₁ B Ls L) md ops (fuel+1) listed R L₁ ds k:=
 Ta.each [i] hr rfl ⟨TaOp.mk hi hnd hw (Or.storeT (E:=en) j hop hx hy hj ht hz h0 hl hs hd hc ⟨hS,h⟩),trivial⟩
theorem FnT.h {g:FuncId}{az:List Value}{as':Array Value}{H:View}{Q:Value->View->Prop}(h:CallT M g as' H Q)(hall:([]++az++[]).toArray=as':=by exact rfl)(hg:callable Tryz.prog g=true:=by kernel_rfl):FnT M (.func (.func g) #[] #[]) az H Q:=FnT.of (first:= []) (captured:= []) hg hall h
theorem OpV.tk {M:Md Tryz.prog}{n:Nat}{H₀:View}{R:Rg}{L:Bl}{o:Oper}{v:Value}{g:FuncId}{as':Array Value}{cl:Go.Call}{x:Operand}{az:List Value}(hc:∀H,SymSt H₀ L H->CallT M g as' H fun u H'=> H.le H'/\u=v)(hop:o.op=.call cl:=by exact rfl)(hcl:cl.callee=.value x:=by exact rfl)(hx:evR R x=some (.func (.func g) #[] #[]):=by exact rfl)(has:evRs R cl.args.toList=some az:=by exact rfl)(hall:([]++az++[]).toArray=as':=by exact rfl)(hg:callable Tryz.prog g=true:=by kernel_rfl):∀H tmps,SymSt H₀ L H->RegOk n R tmps->OpVal M o tmps H fun u H'=> u=v/\H.le H':=
 OpV.takeCall hop hcl hx has fun H hs=> FnT.h (hc H hs) hall hg
theorem To.cl {M:Md Tryz.prog}{St:View->Goroutine->Prop}{n:Nat}{b:FB}{H₀:View}{cs:List Frame}{R:Rg}{L:Bl}{ds:List Deferred}{k:List Item}{dl:List (Option Tmp)}{l:List Oper}{o:Oper}{d:Nat}{v:Value}{g:FuncId}{as':Array Value}{cl:Go.Call}{x:Operand}{az:List Value}(hc:∀H,SymSt H₀ L H->CallT M g as' H fun u H'=> H.le H'/\u=v)(kk:To M St n b H₀ cs dl ((d,v)::R) L ds l k)(hop:o.op=.call cl:=by exact rfl)(hcl:cl.callee=.value x:=by exact rfl)(hx:evR R x=some (.func (.func g) #[] #[]):=by exact rfl)(has:evRs R cl.args.toList=some az:=by exact rfl)(hall:([]++az++[]).toArray=as':=by exact rfl)(hg:callable Tryz.prog g=true:=by kernel_rfl)(h1:wantB dl R o=some true:=by exact rfl)(h2:isDefer o.op=false:=by exact rfl)(h3:o.dst=some d:=by exact rfl)(h4:d<n:=by decide):To M St n b H₀ cs dl R L ds (o::l) k:=
 To.op h1 h2 (Or.ofT (OpV.takeCall hop hcl hx has fun H hs=> FnT.h (hc H hs) hall hg) h3 h4 kk)
end
def Spi(_:Nat)(Q P:Prop):Prop:=Q->P
section
variable {M:Md Tryz.prog}{St:View->Goroutine->Prop}{n:Nat}{b:FB}{H₀ H₁:View}{cs:List Frame}{R:Rg}{L Ls L₁:Bl}{ds:List Deferred}{k:List Item}{md:Region.Mode}{ops:Array Oper}{fuel:Nat}{listed:Array Bool}{B C:List Nat}{o:Oper}{d:Nat}{v:Value}
theorem Spi.a {i:Nat}(hi:ops[i]? =some o:=by exact rfl)(hc:takeOk md ops B listed i=true:=by kernel_rfl)(ho:OpV Tryz.prog n H₀ R L o v:=by exact .a)(hw:wantB (ops.toList.map (fun o:Oper=> o.dst)) R o=some true:=by exact rfl)(hd:o.dst=some d:=by exact rfl)(hn:d<n:=by decide)(hnd:isDefer o.op=false:=by exact rfl):
 Spi i (Ta M St n b H₁ cs (S2 H₀ B Ls L) md ops fuel (listed.setIfInBounds i true) ((d,v)::R) L₁ ds k) (Ta M St n b H₁ cs (S2 H₀ B Ls L) md ops (fuel+1) listed R L₁ ds k):=fun h=> Ta.nn i h hi hc ho hw hd hn hnd
end
theorem Spi.tr {i:Nat}{P Q R:Prop}(h:Spi i R P)(g:Spi (i+1) Q R):Spi i Q P:=fun q=> h (g q)
theorem V2(i:Nat){P Q:Prop}(q:Q)(h:Spi i Q P:=by(iterate 1 (apply Spi.tr;exact .a));exact .a):P:=h q
theorem V3(i:Nat){P Q:Prop}(q:Q)(h:Spi i Q P:=by(iterate 2 (apply Spi.tr;exact .a));exact .a):P:=h q
theorem V4(i:Nat){P Q:Prop}(q:Q)(h:Spi i Q P:=by(iterate 3 (apply Spi.tr;exact .a));exact .a):P:=h q
theorem V5(i:Nat){P Q:Prop}(q:Q)(h:Spi i Q P:=by(iterate 4 (apply Spi.tr;exact .a));exact .a):P:=h q
theorem V6(i:Nat){P Q:Prop}(q:Q)(h:Spi i Q P:=by(iterate 5 (apply Spi.tr;exact .a));exact .a):P:=h q
theorem V7(i:Nat){P Q:Prop}(q:Q)(h:Spi i Q P:=by(iterate 6 (apply Spi.tr;exact .a));exact .a):P:=h q
theorem V8(i:Nat){P Q:Prop}(q:Q)(h:Spi i Q P:=by(iterate 7 (apply Spi.tr;exact .a));exact .a):P:=h q
theorem V9(i:Nat){P Q:Prop}(q:Q)(h:Spi i Q P:=by(iterate 8 (apply Spi.tr;exact .a));exact .a):P:=h q
theorem V10(i:Nat){P Q:Prop}(q:Q)(h:Spi i Q P:=by(iterate 9 (apply Spi.tr;exact .a));exact .a):P:=h q
theorem V11(i:Nat){P Q:Prop}(q:Q)(h:Spi i Q P:=by(iterate 10 (apply Spi.tr;exact .a));exact .a):P:=h q
theorem V12(i:Nat){P Q:Prop}(q:Q)(h:Spi i Q P:=by(iterate 11 (apply Spi.tr;exact .a));exact .a):P:=h q
theorem V13(i:Nat){P Q:Prop}(q:Q)(h:Spi i Q P:=by(iterate 12 (apply Spi.tr;exact .a));exact .a):P:=h q
theorem V14(i:Nat){P Q:Prop}(q:Q)(h:Spi i Q P:=by(iterate 13 (apply Spi.tr;exact .a));exact .a):P:=h q
theorem V15(i:Nat){P Q:Prop}(q:Q)(h:Spi i Q P:=by(iterate 14 (apply Spi.tr;exact .a));exact .a):P:=h q
theorem V18(i:Nat){P Q:Prop}(q:Q)(h:Spi i Q P:=by(iterate 17 (apply Spi.tr;exact .a));exact .a):P:=h q
def Sp(Q P:Prop):Prop:=Q->P
section
variable {M:Md Tryz.prog}{St:View->Goroutine->Prop}{n:Nat}{b:FB}{H₀:View}{cs:List Frame}{R:Rg}{L:Bl}{ds:List Deferred}{k:List Item}{dl:List (Option Tmp)}{l:List Oper}{o:Oper}{d:Nat}{v:Value}
theorem Sp.a(hv:wantB dl R o=some false/\v=undef\/wantB dl R o=some true/\OpV Tryz.prog n H₀ R L o v:=by first|exact .inl ⟨rfl,rfl⟩|exact .inr ⟨rfl,.a⟩)(h2:isDefer o.op=false:=by exact rfl)(h3:o.dst=some d:=by exact rfl)(h4:d<n:=by decide):Sp (To M St n b H₀ cs dl ((d,v)::R) L ds l k) (To M St n b H₀ cs dl R L ds (o::l) k):=fun kk=> by
 rcases hv with ⟨h1,rfl⟩|⟨h1,h⟩
 ·exact To.skipped h3 h4 h1 kk
 ·exact To.op h1 h2 (Or.ofV h h3 h4 kk)
theorem Sp.w(i:Nat){t:TypeId}{x y:Operand}{r:TyRow}{blk off:Nat}{c c':List Value}{e:TypeId}(hop:o.op=.store t x y:=by exact rfl)(hx:evR R x=some (.pointer (some ⟨blk,off,none⟩)):=by exact rfl)(hy:evR R y=some v:=by exact rfl)(hi:L[i]? =some (blk,true,.cells ⟨c⟩ e (0,0)):=by exact rfl)(ht:en.ty t=some r:=by exact rfl)(hz:Nat.beq v.cells.toList.length r.size=true:=by exact rfl)(h0:Nat.beq r.size 0=false:=by exact rfl)(hl:Nat.ble (off+r.size) c.length=true:=by first|exact rfl|assumption)(hs:v.cells.toList.all single=true:=by exact rfl)(hd:o.dst=none:=by exact rfl)(hc:stL c off v.cells.toList=c':=by first|assumption|exact rfl)(h1:wantB dl R o=some true:=by exact rfl)(h2:isDefer o.op=false:=by exact rfl):Sp (To M St n b H₀ cs dl R (L.set i (blk,true,.cells ⟨c'⟩ e (0,0))) ds l k) (To M St n b H₀ cs dl R L ds (o::l) k):=fun kk=> To.op h1 h2 (Or.storeT (E:=en) i hop hx hy hi ht hz h0 hl hs hd hc kk)
theorem Sp.dn:Sp (Tc M St n b H₀ cs R L ds k) (To M St n b H₀ cs dl R L ds [] k):=To.done
theorem Sp.s {x y:Code}:Sp (Tc M St n b H₀ cs R L ds (.code x:: .code y::k)) (Tc M St n b H₀ cs R L ds (.code (.seq x y)::k)):=Tc.seq
theorem Sp.r {id:Nat}{ops:Array Oper}(hl:ops.toList=l:=by exact rfl)(hdl:l.map (fun o:Oper=> o.dst)=dl:=by exact rfl):Sp (To M St n b H₀ cs dl R L ds l k) (Tc M St n b H₀ cs R L ds (.code (.region id ops false)::k)):=Tc.region hl hdl
theorem Sp.t {c:Operand}{x y:Code}(hc:evR R c=some (.bool true):=by exact rfl):Sp (Tc M St n b H₀ cs R L ds (.code x::k)) (Tc M St n b H₀ cs R L ds (.code (.cond c x y)::k)):=Tc.tt hc
theorem Sp.f {c:Operand}{x y:Code}(hc:evR R c=some (.bool false):=by exact rfl):Sp (Tc M St n b H₀ cs R L ds (.code y::k)) (Tc M St n b H₀ cs R L ds (.code (.cond c x y)::k)):=Tc.ff hc
theorem Sp.sk:Sp (Tc M St n b H₀ cs R L ds k) (Tc M St n b H₀ cs R L ds (.code .skip::k)):=Tc.skip
theorem Sp.bk {id:Nat}{c:Code}:Sp (Tc M St n b H₀ cs R L ds (.code c:: .inBlock id::k)) (Tc M St n b H₀ cs R L ds (.code (.block id c)::k)):=Tc.block
theorem Sp.i {id:Nat}:Sp (Tc M St n b H₀ cs R L ds k) (Tc M St n b H₀ cs R L ds (.inBlock id::k)):=Tc.inBlock
theorem Sp.e {id:Nat}{k':List Item}(he:exitTo id k=some k':=by exact rfl):Sp (Tc M St n b H₀ cs R L ds k') (Tc M St n b H₀ cs R L ds (.code (.exit id)::k)):=Tc.exit he
end
theorem Sp.on {P Q:Prop}(h:Sp Q P:=by first|exact .a|exact .dn|exact .s|exact .r|exact .t|exact .f|exact .sk|exact .bk|exact .i|exact .e|exact .w 0|exact .w 1|exact .w 2|exact .w 3|exact .w 4|exact .w 5|exact .w 6):Sp Q P:=h
theorem Sp.tr {P Q R:Prop}(h:Sp R P)(g:Sp Q R):Sp Q P:=fun q=> h (g q)
theorem U {P Q:Prop}(q:Q)(h:Sp Q P:=by exact .on):P:=h q
theorem U2 {P Q:Prop}(q:Q)(h:Sp Q P:=by(iterate 1 (apply Sp.tr;exact .on));exact .on):P:=h q
theorem U3 {P Q:Prop}(q:Q)(h:Sp Q P:=by(iterate 2 (apply Sp.tr;exact .on));exact .on):P:=h q
theorem U4 {P Q:Prop}(q:Q)(h:Sp Q P:=by(iterate 3 (apply Sp.tr;exact .on));exact .on):P:=h q
theorem U5 {P Q:Prop}(q:Q)(h:Sp Q P:=by(iterate 4 (apply Sp.tr;exact .on));exact .on):P:=h q
theorem U6 {P Q:Prop}(q:Q)(h:Sp Q P:=by(iterate 5 (apply Sp.tr;exact .on));exact .on):P:=h q
theorem U7 {P Q:Prop}(q:Q)(h:Sp Q P:=by(iterate 6 (apply Sp.tr;exact .on));exact .on):P:=h q
theorem U8 {P Q:Prop}(q:Q)(h:Sp Q P:=by(iterate 7 (apply Sp.tr;exact .on));exact .on):P:=h q
theorem U9 {P Q:Prop}(q:Q)(h:Sp Q P:=by(iterate 8 (apply Sp.tr;exact .on));exact .on):P:=h q
theorem U10 {P Q:Prop}(q:Q)(h:Sp Q P:=by(iterate 9 (apply Sp.tr;exact .on));exact .on):P:=h q
theorem U11 {P Q:Prop}(q:Q)(h:Sp Q P:=by(iterate 10 (apply Sp.tr;exact .on));exact .on):P:=h q
theorem U12 {P Q:Prop}(q:Q)(h:Sp Q P:=by(iterate 11 (apply Sp.tr;exact .on));exact .on):P:=h q
theorem U13 {P Q:Prop}(q:Q)(h:Sp Q P:=by(iterate 12 (apply Sp.tr;exact .on));exact .on):P:=h q
theorem U14 {P Q:Prop}(q:Q)(h:Sp Q P:=by(iterate 13 (apply Sp.tr;exact .on));exact .on):P:=h q
theorem U15 {P Q:Prop}(q:Q)(h:Sp Q P:=by(iterate 14 (apply Sp.tr;exact .on));exact .on):P:=h q
theorem U16 {P Q:Prop}(q:Q)(h:Sp Q P:=by(iterate 15 (apply Sp.tr;exact .on));exact .on):P:=h q
theorem U17 {P Q:Prop}(q:Q)(h:Sp Q P:=by(iterate 16 (apply Sp.tr;exact .on));exact .on):P:=h q
theorem U18 {P Q:Prop}(q:Q)(h:Sp Q P:=by(iterate 17 (apply Sp.tr;exact .on));exact .on):P:=h q
theorem U19 {P Q:Prop}(q:Q)(h:Sp Q P:=by(iterate 18 (apply Sp.tr;exact .on));exact .on):P:=h q
theorem U20 {P Q:Prop}(q:Q)(h:Sp Q P:=by(iterate 19 (apply Sp.tr;exact .on));exact .on):P:=h q
theorem U21 {P Q:Prop}(q:Q)(h:Sp Q P:=by(iterate 20 (apply Sp.tr;exact .on));exact .on):P:=h q
theorem U22 {P Q:Prop}(q:Q)(h:Sp Q P:=by(iterate 21 (apply Sp.tr;exact .on));exact .on):P:=h q
theorem U23 {P Q:Prop}(q:Q)(h:Sp Q P:=by(iterate 22 (apply Sp.tr;exact .on));exact .on):P:=h q
theorem U24 {P Q:Prop}(q:Q)(h:Sp Q P:=by(iterate 23 (apply Sp.tr;exact .on));exact .on):P:=h q
theorem U25 {P Q:Prop}(q:Q)(h:Sp Q P:=by(iterate 24 (apply Sp.tr;exact .on));exact .on):P:=h q
theorem U26 {P Q:Prop}(q:Q)(h:Sp Q P:=by(iterate 25 (apply Sp.tr;exact .on));exact .on):P:=h q
theorem U27 {P Q:Prop}(q:Q)(h:Sp Q P:=by(iterate 26 (apply Sp.tr;exact .on));exact .on):P:=h q
theorem U28 {P Q:Prop}(q:Q)(h:Sp Q P:=by(iterate 27 (apply Sp.tr;exact .on));exact .on):P:=h q
theorem U29 {P Q:Prop}(q:Q)(h:Sp Q P:=by(iterate 28 (apply Sp.tr;exact .on));exact .on):P:=h q
theorem U30 {P Q:Prop}(q:Q)(h:Sp Q P:=by(iterate 29 (apply Sp.tr;exact .on));exact .on):P:=h q
theorem U31 {P Q:Prop}(q:Q)(h:Sp Q P:=by(iterate 30 (apply Sp.tr;exact .on));exact .on):P:=h q
theorem U32 {P Q:Prop}(q:Q)(h:Sp Q P:=by(iterate 31 (apply Sp.tr;exact .on));exact .on):P:=h q
theorem U33 {P Q:Prop}(q:Q)(h:Sp Q P:=by(iterate 32 (apply Sp.tr;exact .on));exact .on):P:=h q
theorem U34 {P Q:Prop}(q:Q)(h:Sp Q P:=by(iterate 33 (apply Sp.tr;exact .on));exact .on):P:=h q
theorem U35 {P Q:Prop}(q:Q)(h:Sp Q P:=by(iterate 34 (apply Sp.tr;exact .on));exact .on):P:=h q
theorem U36 {P Q:Prop}(q:Q)(h:Sp Q P:=by(iterate 35 (apply Sp.tr;exact .on));exact .on):P:=h q
theorem U37 {P Q:Prop}(q:Q)(h:Sp Q P:=by(iterate 36 (apply Sp.tr;exact .on));exact .on):P:=h q
theorem U38 {P Q:Prop}(q:Q)(h:Sp Q P:=by(iterate 37 (apply Sp.tr;exact .on));exact .on):P:=h q
theorem U41 {P Q:Prop}(q:Q)(h:Sp Q P:=by(iterate 40 (apply Sp.tr;exact .on));exact .on):P:=h q
theorem U42 {P Q:Prop}(q:Q)(h:Sp Q P:=by(iterate 41 (apply Sp.tr;exact .on));exact .on):P:=h q
theorem U43 {P Q:Prop}(q:Q)(h:Sp Q P:=by(iterate 42 (apply Sp.tr;exact .on));exact .on):P:=h q
theorem U46 {P Q:Prop}(q:Q)(h:Sp Q P:=by(iterate 45 (apply Sp.tr;exact .on));exact .on):P:=h q
theorem U51 {P Q:Prop}(q:Q)(h:Sp Q P:=by(iterate 50 (apply Sp.tr;exact .on));exact .on):P:=h q
theorem U52 {P Q:Prop}(q:Q)(h:Sp Q P:=by(iterate 51 (apply Sp.tr;exact .on));exact .on):P:=h q
theorem U53 {P Q:Prop}(q:Q)(h:Sp Q P:=by(iterate 52 (apply Sp.tr;exact .on));exact .on):P:=h q
theorem U54 {P Q:Prop}(q:Q)(h:Sp Q P:=by(iterate 53 (apply Sp.tr;exact .on));exact .on):P:=h q
end Go.RL
namespace Go.Proofs.YtcagolloalgfiaaGreatDoor
open Go.RL Go.Proofs.Tryz
set_option maxRecDepth 10000
def bandV(a b:Int):Value:=.agg ⟨[.int .i64 a,.int .i64 b]⟩
def trainV(a b c d:Int):Value:=.agg ⟨[.int .i64 a,.int .i64 b,.int .i64 c,.int .i64 d]⟩
def begins(s p:List UInt8):Bool:=decide (p.length<=s.length)&&(s.take p.length==p)
def trainOk(a b c d:Int):Bool:=decide (1<=a/\a<=b/\b<=12)&&decide (b-a<4)&&decide (0<=c/\c<=d/\d<=99)
section
variable(M:Md prog)(H:View)
theorem between_c(x lo hi:Int):CallT M 121 #[.int .i64 x,.int .i64 lo,.int .i64 hi] H (fun v H'=> H.le H'/\v=.bool (decide (lo<=x/\x<=hi))):=by
 refine .en func121 ntmps121 fun St c cs hK=> ?_;by_cases c1:lo<=x
 all_goals by_cases c2:x<=hi
 all_goals
  refine U8 ?_;refine .i ?_ (z:=by first|exact leq_t oM|exact leq_f oM);refine U ?_;first|(refine .sk ?_)|(refine .m ?_)
  first|(refine .sk ?_)|(refine .m ?_)
  first|(refine .sk ?_)|(refine .x (.it (zz:=(by first|exact leq_t oM|exact leq_f oM))) ?_)
  refine U3 ?_;refine .rt hK func121 results121 [_] ?_;exact fun H' hs=> ⟨hs.base,by simp[packV,c1,c2]⟩
theorem between_is(x lo hi:Int)(t:Bool)(ht:decide (lo<=x/\x<=hi)=t):CallT M 121 #[.int .i64 x,.int .i64 lo,.int .i64 hi] H (fun v H'=> H.le H'/\v=.bool t):=
 CallT.mono (between_c M H x lo hi) (by rintro v H' ⟨h1,h2⟩;rw[ht] at h2;exact⟨h1,h2⟩)
theorem inside_c(a b lo hi:Int):CallT M 235 #[bandV a b,.int .i64 lo,.int .i64 hi] H (fun v H'=> H.le H'/\v=.bool (decide (lo<=a/\a<=b/\b<=hi))):=by
 refine .en func235 ntmps235 fun St c cs hK=> ?_;by_cases c1:lo<=a
 all_goals by_cases c2:a<=b
 all_goals by_cases c3:b<=hi
 all_goals
  refine U2 ?_;refine .bo fun b1=> ?_;refine U7 ?_;refine .i ?_ (z:=by first|exact leq_t oM|exact leq_f oM);refine U ?_;first|(refine .sk ?_)|(refine .x .fa ?_)
  first|(refine .sk ?_)|((refine .x (.ld 0) ?_))
  first|(refine .sk ?_)|(refine .x .fa ?_)
  first|(refine .sk ?_)|((refine .x (.ld 0) ?_))
  first|(refine .sk ?_)|(refine .x (.it (zz:=(by first|exact leq_t oM|exact leq_f oM))) ?_)
  refine U2 ?_;first|(refine .sk ?_)|(refine .x .fa ?_)
  first|(refine .sk ?_)|((refine .x (.ld 0) ?_))
  first|(refine .sk ?_)|(refine .m ?_)
  first|(refine .sk ?_)|(refine .x (.it (zz:=(by first|exact leq_t oM|exact leq_f oM))) ?_)
  refine U3 ?_;refine .rt hK func235 results235 [_] ?_;exact fun H' hs=> ⟨hs.base,by simp[packV,c1,c2,c3]⟩
theorem inside_is(a b lo hi:Int)(t:Bool)(ht:decide (lo<=a/\a<=b/\b<=hi)=t):CallT M 235 #[bandV a b,.int .i64 lo,.int .i64 hi] H (fun v H'=> H.le H'/\v=.bool t):=
 CallT.mono (inside_c M H a b lo hi) (by rintro v H' ⟨h1,h2⟩;rw[ht] at h2;exact⟨h1,h2⟩)
theorem isTrain_c(a b c' d:Int):CallT M 230 #[trainV a b c' d] H (fun v H'=> H.le H'/\v=.bool (trainOk a b c' d)):=by
 by_cases c1:1<=a/\a<=b/\b<=12
 ·by_cases c2:b-a<4
  ·by_cases c3:0<=c'/\c'<=d/\d<=99
   ·have e:trainOk a b c' d=true:=by unfold trainOk;simp[c1,c2,c3]
    rw[e];refine .en func230 ntmps230 fun St c cs hK=> ?_;refine U2 ?_;refine .bo fun b1=> ?_;refine U6 ?_;refine .cl (fun H hs=> inside_is M H a b 1 12 true (decide_eq_true c1)) ?_;refine U13 ?_;refine .cl (fun H hs=> inside_is M H c' d 0 99 true (decide_eq_true c3)) ?_;refine U3 ?_;refine .rt hK func230 results230 [_] ?_;exact okB
   ·have e:trainOk a b c' d=false:=by unfold trainOk;simp[c3]
    rw[e];refine .en func230 ntmps230 fun St c cs hK=> ?_;refine U2 ?_;refine .bo fun b1=> ?_;refine U6 ?_;refine .cl (fun H hs=> inside_is M H a b 1 12 true (decide_eq_true c1)) ?_;refine U13 ?_;refine .cl (fun H hs=> inside_is M H c' d 0 99 false (decide_eq_false c3)) ?_;refine U3 ?_;refine .rt hK func230 results230 [_] ?_;exact okB
  ·have e:trainOk a b c' d=false:=by unfold trainOk;simp[c2]
   rw[e];refine .en func230 ntmps230 fun St c cs hK=> ?_;refine U2 ?_;refine .bo fun b1=> ?_;refine U6 ?_;refine .cl (fun H hs=> inside_is M H a b 1 12 true (decide_eq_true c1)) ?_;refine U17 ?_;refine .rt hK func230 results230 [_] ?_;exact okB
 ·have e:trainOk a b c' d=false:=by unfold trainOk;simp[c1]
  rw[e];refine .en func230 ntmps230 fun St c cs hK=> ?_;refine U2 ?_;refine .bo fun b1=> ?_;refine U6 ?_;refine .cl (fun H hs=> inside_is M H a b 1 12 false (decide_eq_false c1)) ?_;refine U17 ?_;refine .rt hK func230 results230 [_] ?_;exact okB
theorem HasPrefix0_c(s p:List UInt8):CallT M 151 #[strV s,strV p] H (fun v H'=> H.le H'/\v=.bool (begins s p)):=by
 refine .en func151 ntmps151 fun St c cs hK=> ?_;by_cases c1:p.length<=s.length
 ·have e:begins s p=(s.take p.length==p):=by unfold begins;simp[c1]
  rw[e] at hK;refine U15 ?_;refine .x (OpV.sliceS (E:=en) rfl rfl rfl rfl rfl rfl oM oM oM) ?_;refine U5 ?_;refine .rt hK func151 results151 [_] ?_;exact fun H' hs=> ⟨hs.base,by simp[packV]⟩
 ·have e:begins s p=false:=by unfold begins;simp[c1]
  rw[e] at hK;refine U21 ?_;refine .rt hK func151 results151 [_] ?_;exact okB
theorem HasPrefix_c(s p:List UInt8):CallT M 112 #[strV s,strV p] H (fun v H'=> H.le H'/\v=.bool (begins s p)):=by
 refine .en func112 ntmps112 fun St c cs hK=> ?_;refine U8 ?_;refine .cl (fun H hs=> HasPrefix0_c M H s p) ?_;refine U2 ?_;refine .rt hK func112 results112 [_] ?_;exact okB
end
set_option maxHeartbeats 4000000
def firstTo(p:Nat->Bool):Nat->Option Nat
 | 0=> none
 | k+1=> (firstTo p k).or (if p k then some k else none)
theorem firstTo_stays {p:Nat->Bool}{j x:Nat}(h:firstTo p j=some x):∀m,j<=m->firstTo p m=some x:=by
 intro m hm;induction m with
 | zero=>
  have:j=0:=by omega
  subst this;exact h
 | succ m ih=>
  by_cases e:j=m+1
  ·subst e;exact h
  ·rw[firstTo,ih oM];rfl
structure Bk where
 gap:Int
 give:Int
 nl:Nat
 name:Nat->List UInt8
 num:Nat->List UInt8
 nf:Nat->Nat
 free:Nat->Nat->Int
 nt:Nat
 pf:Nat->Int
 pt:Nat->Int
 qf:Nat->Int
 qt:Nat->Int
def lineV(a b:List UInt8)(F:Option Addr)(n c:Nat):Value:=.agg ⟨[strV a,strV b,.slice F n c]⟩
def Bk.val(k:Bk)(A:Option Addr)(lc:Nat)(B:Option Addr)(tc:Nat):Value:=.agg ⟨[.int .i64 k.gap,.int .i64 k.give,.slice A k.nl lc,.slice B k.nt tc]⟩
def FreeAt(H:View)(F:Option Addr)(n:Nat)(x:Nat->Int):Prop:=
 n=0\/∃b o f gs gt gz,F=some ⟨b,o,none⟩/\H b=some (f,.cells ⟨gs⟩ gt gz)/\∀j:Nat,j<n->ldL false 1 gs (o+(j:Int).toNat*1)=some (.int .i64 (x j))
def RowsAt(H:View)(k:Bk)(A:Option Addr)(lc:Nat):Prop:=
 k.nl<=lc/\(k.nl=0\/∃b o f gs gt gz,A=some ⟨b,o,none⟩/\H b=some (f,.cells ⟨gs⟩ gt gz)/\
  ∀i:Nat,i<k.nl->∃F fc,ldL true 3 gs (o+(i:Int).toNat*3)=some (lineV (k.name i) (k.num i) F (k.nf i) fc)/\k.nf i<=fc/\FreeAt H F (k.nf i) (k.free i))
def TrainsAt(H:View)(k:Bk)(B:Option Addr)(tc:Nat):Prop:=
 k.nt<=tc/\(k.nt=0\/∃b o f gs gt gz,B=some ⟨b,o,none⟩/\H b=some (f,.cells ⟨gs⟩ gt gz)/\
  ∀i:Nat,i<k.nt->ldL true 4 gs (o+(i:Int).toNat*4)=some (trainV (k.pf i) (k.pt i) (k.qf i) (k.qt i)))
theorem FreeAt.le {H H':View}{F:Option Addr}{n:Nat}{x:Nat->Int}(h:FreeAt H F n x)(k:H.le H'):FreeAt H' F n x:=
 h.imp id fun⟨b,o,f,gs,gt,gz,h1,h2,h3⟩=> ⟨b,o,f,gs,gt,gz,h1,k _ _ h2,h3⟩
theorem RowsAt.le {H H':View}{k:Bk}{A:Option Addr}{lc:Nat}(h:RowsAt H k A lc)(hl:H.le H'):RowsAt H' k A lc:=
 ⟨h.1,h.2.imp id fun⟨b,o,f,gs,gt,gz,h1,h2,h3⟩=> ⟨b,o,f,gs,gt,gz,h1,hl _ _ h2,fun i hi=> by
  obtain⟨F,fc,h4,h5,h6⟩:=h3 i hi;exact⟨F,fc,h4,h5,h6.le hl⟩⟩⟩
theorem TrainsAt.le {H H':View}{k:Bk}{A:Option Addr}{lc:Nat}(h:TrainsAt H k A lc)(hl:H.le H'):TrainsAt H' k A lc:=
 ⟨h.1,h.2.imp id fun⟨b,o,f,gs,gt,gz,h1,h2,h3⟩=> ⟨b,o,f,gs,gt,gz,h1,hl _ _ h2,h3⟩⟩
def AskL(M:Md prog)(H:View)(fv:Value)(k:Bk)(p:Nat->Bool):Prop:=
 ∀i:Nat,i<k.nl->∀F fc H',H.le H'->FnT M fv [lineV (k.name i) (k.num i) F (k.nf i) fc] H' fun v H''=> H'.le H''/\v=.bool (p i)
def firstI:Option Nat->Int
 | none=> -1
 | some i=> (i:Nat)
def Bk.line(k:Bk)(s:List UInt8):Option Nat:=firstTo (fun i=> begins s (k.num i)) k.nl
section
variable(M:Md prog)(H:View)
theorem first_c(k:Bk)(A:Option Addr)(lc:Nat)(hA:RowsAt H k A lc)(hn:k.nl<=1000)(fv:Value)(p:Nat->Bool)(hp:AskL M H fv k p):
  CallT M 110 #[.slice A k.nl lc,fv] H (fun v H'=> H.le H'/\v=.int .i64 (firstI (firstTo p k.nl))):=by
 refine .en func110 ntmps110 fun St c cs hK=> ?_;refine U12 ?_;refine Tc.db (Tc.loopInv (σ:= { j:Nat//j<=k.nl/\firstTo p j=none }) (fun j=> ([(1,fv),(7,.slice A k.nl lc),(8,.int .i64 (k.nl:Nat)),(9,.int .i64 (j.1:Nat))],[])) (fun j=> k.nl-j.1) ?_ ⟨0,Nat.zero_le _,rfl⟩);rintro⟨j,hj,hno⟩ ih;show Tc M St _ _ _ _ [(1,fv),(7,.slice A k.nl lc),(8,.int .i64 (k.nl:Nat)),(9,.int .i64 (j:Nat))] [] _ _;by_cases c1:j=k.nl
 ·subst c1;rw[hno] at hK;refine U11 ?_;refine .rt hK func110 results110 [_] ?_;exact okB
 ·have c2:j<k.nl:=by omega
  obtain⟨_,h0|⟨ab,ao,f,gs,gt,gz,rfl,hb,hl⟩⟩:=hA
  ·omega
  obtain⟨F,fc,f1,_,_⟩:=hl j c2;have hpj:=hp j c2 F fc;cases hpp:p j with
  | true=>
   rw[hpp] at hpj;have e:firstTo p k.nl=some j:=firstTo_stays (j:=j+1) (by simp[firstTo,hno,hpp]) _ oM;rw[e] at hK;refine U14 ?_;refine .al fun b6=> ?_;refine U7 ?_;refine .c rfl rfl rfl rfl (fun H hs=> hpj H hs.base) ?_;refine U7 ?_;refine .rt hK func110 results110 [_] ?_;exact okB
  | false=>
   rw[hpp] at hpj;refine U14 ?_;refine .al fun b6=> ?_;refine U7 ?_;refine .c rfl rfl rfl rfl (fun H hs=> hpj H hs.base) ?_;refine U8 ?_;exact Tc.db (ih ⟨j+1,oM,by simp[firstTo,hno,hpp]⟩ (by simp only;omega))
theorem line1_c(s:List UInt8)(b3:Nat)(f:Bool)(hb:H b3=some (f,.cells ⟨[strV s]⟩ 9 (0,0)))(a num:List UInt8)(F:Option Addr)(n fc:Nat):
  CallT M 150 #[lineV a num F n fc,.pointer (some ⟨b3,0,none⟩)] H (fun v H'=> H.le H'/\v=.bool (begins s num)):=by
 refine .en func150 ntmps150 fun St c cs hK=> ?_;refine U2 ?_;refine .bo fun b2=> ?_;refine U7 ?_;refine .cl (fun H hs=> HasPrefix_c M H s num) ?_;refine U2 ?_;refine .rt hK func150 results150 [_] ?_;exact okB
theorem line_c(k:Bk)(A:Option Addr)(lc:Nat)(B:Option Addr)(tc:Nat)(hA:RowsAt H k A lc)(hn:k.nl<=1000)(s:List UInt8):
  CallT M 109 #[k.val A lc B tc,strV s] H (fun v H'=> H.le H'/\v=.int .i64 (firstI (k.line s))):=by
 refine .en func109 ntmps109 fun St c cs hK=> ?_;refine U2 ?_;refine .bo fun b2=> ?_;refine .bo fun b3=> ?_;refine U8 ?_;refine .cl (fun H hs=> first_c M H k A lc (hA.le hs.base) hn _ (fun i=> begins s (k.num i)) (fun i _ F fc H' hle=> FnT.of (first:= []) (captured:= [_]) ca150 rfl (line1_c M H' s b3 true (hle _ _ (hs.get (i:=0) rfl)) (k.name i) (k.num i) F (k.nf i) fc))) ?_;refine U2 ?_;refine .rt hK func109 results109 [_] ?_;exact okB
end
structure Ear where
 heard:List UInt8
 pend:Nat
 deaf:Bool
 deriving DecidableEq
def earV(s:List UInt8)(m:Nat)(d:Bool):Value:=.agg ⟨[strV s,.int .i64 (m:Nat),.bool d]⟩
def Ear.val(e:Ear):Value:=earV e.heard e.pend e.deaf
def digB(n:Nat):UInt8:=UInt8.ofNat (48+n%10)
def Ear.hear(e:Ear)(p:Nat)(kd:Nat):Ear:=
 if e.deaf then e else if kd=0 then⟨e.heard,e.pend+p,false⟩ else if 10<e.pend+p then⟨e.heard,0,true⟩ else⟨e.heard++[digB (e.pend+p)],0,decide (kd=2)⟩
def Bk.kind(k:Bk)(pause:Int):Nat:=if pause<k.gap then 0 else if pause<k.give then 1 else 2
theorem dig_at:∀n:Nat,n<10->([48,49,50,51,52,53,54,55,56,57]:List UInt8)[n]? =some (digB n):=by decide
theorem dig_lt(n:Nat):(digB n).toNat<128:=by
 unfold digB;have:n%10<10:=Nat.mod_lt _ dE;rw[UInt8.toNat_ofNat'];omega
theorem dig_mod(n:Nat):digB (n%10)=digB n:=by unfold digB;rw[Nat.mod_mod]
section
variable(M:Md prog)(H:View)
theorem kind_c(k:Bk)(A:Option Addr)(lc:Nat)(B:Option Addr)(tc:Nat)(p:Int):CallT M 149 #[k.val A lc B tc,.int .i64 p] H (fun v H'=> H.le H'/\v=.int .i64 (k.kind p:Nat)):=by
 by_cases c1:p<k.gap
 ·have e:k.kind p=0:=if_pos c1;rw[e];refine .en func149 ntmps149 fun St c cs hK=> ?_;refine U2 ?_;refine .bo fun b2=> ?_;refine U18 ?_;refine .rt hK func149 results149 [_] ?_;exact okB
 ·by_cases c2:p<k.give
  ·have e:k.kind p=1:=by unfold Bk.kind;rw[if_neg c1,if_pos c2]
   rw[e];refine .en func149 ntmps149 fun St c cs hK=> ?_;refine U2 ?_;refine .bo fun b2=> ?_;refine U28 ?_;refine .rt hK func149 results149 [_] ?_;exact okB
  ·have e:k.kind p=2:=by unfold Bk.kind;rw[if_neg c1,if_neg c2]
   rw[e];refine .en func149 ntmps149 fun St c cs hK=> ?_;refine U2 ?_;refine .bo fun b2=> ?_;refine U30 ?_;refine .rt hK func149 results149 [_] ?_;exact okB
theorem hear_c(e:Ear)(p kd:Nat)(hh:e.heard.length<=1000)(hp:e.pend<=1000)(hp2:p<=1000)(hk:kd<=2):CallT M 108 #[e.val,.int .i64 (p:Nat),.int .i64 (kd:Nat)] H (fun v H'=> H.le H'/\v=(e.hear p kd).val):=by
 obtain⟨s,m,df⟩:=e;simp only at hh hp;show CallT M 108 #[earV s m df,.int .i64 (p:Nat),.int .i64 (kd:Nat)] H _;cases df with
 | true=>
  refine .en func108 ntmps108 fun St c cs hK=> ?_;refine U2 ?_;refine .bo fun b3=> ?_;refine .al fun b6=> ?_;refine U13 ?_;refine .rt hK func108 results108 [_] ?_;exact okB
 | false =>
  obtain⟨q,hq⟩:∃q,m+p=q:=⟨_,rfl⟩
  have hmp:((m:Nat):Int)+((p:Nat):Int)=((q:Nat):Int):=by omega
  by_cases k0:kd=0
  ·subst k0;have e1:(⟨s,m,false⟩:Ear).hear p 0=⟨s,q,false⟩:=by unfold Ear.hear;simp[hq]
   rw[e1];refine .en func108 ntmps108 fun St c cs hK=> ?_;refine U2 ?_;refine .bo fun b3=> ?_;refine .al fun b6=> ?_;refine U14 ?_;refine .al fun b7=> ?_;refine U10 ?_;rw[hmp];refine U33 ?_;refine .rt hK func108 results108 [_] ?_;exact okB
  ·by_cases c1:10<q
   ·have e1:(⟨s,m,false⟩:Ear).hear p kd=⟨s,0,true⟩:=by unfold Ear.hear;simp[hq,k0,c1]
    rw[e1];rcases(by omega:kd=1\/kd=2) with rfl|rfl
    ·refine .en func108 ntmps108 fun St c cs hK=> ?_;refine U2 ?_;refine .bo fun b3=> ?_;refine .al fun b6=> ?_;refine U14 ?_;refine .al fun b7=> ?_;refine U10 ?_;rw[hmp];refine U53 ?_;refine .rt hK func108 results108 [_] ?_;exact okB
    ·refine .en func108 ntmps108 fun St c cs hK=> ?_;refine U2 ?_;refine .bo fun b3=> ?_;refine .al fun b6=> ?_;refine U14 ?_;refine .al fun b7=> ?_;refine U10 ?_;rw[hmp];refine U51 ?_;refine .rt hK func108 results108 [_] ?_;exact okB
   ·have e1:(⟨s,m,false⟩:Ear).hear p kd=⟨s++[digB q],0,decide (kd=2)⟩:=by unfold Ear.hear;simp[hq,k0,c1]
    rw[e1];have a2:intBin .rem .i64 (q:Nat) 10=some (.int .i64 ((q%10:Nat):Int)):=by rw[rem_in oM oM];rfl
    have a3:([48,49,50,51,52,53,54,55,56,57]:List UInt8)[((q%10:Nat):Int).toNat]? =some (digB q):=by
     rw[Int.toNat_natCast,dig_at _ (Nat.mod_lt _ dE),dig_mod]
    have a4:=dig_lt q;have a5:(UInt8.ofNat (digB q).toNat)=digB q:=UInt8.ofNat_toNat;rcases(by omega:kd=1\/kd=2) with rfl|rfl
    ·refine .en func108 ntmps108 fun St c cs hK=> ?_;refine U2 ?_;refine .bo fun b3=> ?_;refine .al fun b6=> ?_;refine U14 ?_;refine .al fun b7=> ?_;refine U10 ?_;rw[hmp];refine U43 ?_;refine Tc.dr [8] [0] mixed rfl ?_;refine V5 0 ?_;refine .q 5 rfl (OpV.convS (E:=en) rfl rfl oM rfl rfl rfl rfl) ?_;refine .q 6 rfl (OpV.strB rfl rfl rfl (by exact strB_add (by simp <;> omega))) ?_;refine .nn 7 ?_;refine .e 8 0 ?_;refine .dn ?_;refine U6 ?_;refine .rt hK func108 results108 [_] ?_;exact fun H' hs=> ⟨hs.base,by rw[a5];rfl⟩
    ·refine .en func108 ntmps108 fun St c cs hK=> ?_;refine U2 ?_;refine .bo fun b3=> ?_;refine .al fun b6=> ?_;refine U14 ?_;refine .al fun b7=> ?_;refine U10 ?_;rw[hmp];refine U41 ?_;refine Tc.dr [8] [0] mixed rfl ?_;refine V5 0 ?_;refine .q 5 rfl (OpV.convS (E:=en) rfl rfl oM rfl rfl rfl rfl) ?_;refine .q 6 rfl (OpV.strB rfl rfl rfl (by exact strB_add (by simp <;> omega))) ?_;refine .nn 7 ?_;refine .e 8 0 ?_;refine .dn ?_;refine U6 ?_;refine .rt hK func108 results108 [_] ?_;exact fun H' hs=> ⟨hs.base,by rw[a5];rfl⟩
end
def clash1(num s:List UInt8):Bool:=begins num s||begins s num
def Bk.clash(k:Bk)(s:List UInt8):Bool:=(firstTo (fun i=> clash1 (k.num i) s) k.nl).isSome
def dig(c:UInt8):Bool:=decide (48<=c.toNat/\c.toNat<58)
def digs:List UInt8:= [48,49,50,51,52,53,54,55,56,57]
def digSet(i:Nat):List Value:=(List.range 256).map fun j=> .bool (decide (48<=j/\j<48+i))
def trimR(s:List UInt8):List UInt8:=(s.reverse.dropWhile dig).reverse
def trimD(s:List UInt8):List UInt8:=(trimR s).dropWhile dig
def isNum(s:List UInt8):Bool:=decide (1<=s.length/\s.length<=3)&&s.all dig
theorem digSet_zero:digSet 0=List.replicate 256 (.bool false):=by kernel_rfl
theorem digSet_st:∀i,i<10->stL (digSet i) (0+((48+i:Nat):Int).toNat*1) [.bool true]=digSet (i+1):=by
 intro i hi;rcases(by omega:i=0\/i=1\/i=2\/i=3\/i=4\/i=5\/i=6\/i=7\/i=8\/i=9) with rfl|rfl|rfl|rfl|rfl|rfl|rfl|rfl|rfl|rfl <;> kernel_rfl
theorem digSet_ld(c:UInt8):ldL false 1 (digSet 10) (0+((c.toNat:Nat):Int).toNat*1)=some (.bool (dig c)):=by
 show(digSet 10)[_]? =_;have:c.toNat<256:=c.toNat_lt;unfold digSet dig;rw[List.getElem?_map,Int.toNat_natCast,Nat.mul_one,Nat.zero_add,List.getElem?_range this];rfl
theorem digs_at:∀i,i<10->digs[i]? =some (UInt8.ofNat (48+i)):=by decide
theorem trimR_snoc(s:List UInt8)(c:UInt8)(h:dig c=true):trimR (s++[c])=trimR s:=by
 unfold trimR;rw[List.reverse_append];simp[h]
theorem trimR_stop(s:List UInt8)(c:UInt8)(h:dig c=false):trimR (s++[c])=s++[c]:=by
 unfold trimR;rw[List.reverse_append];simp[h]
theorem trimD_nil(s:List UInt8):(trimD s== [])=s.all dig:=by
 have h:trimD s= []<->∀c∈s,dig c=true:=by
  unfold trimD trimR;constructor
  ·intro h c hc;have h1:∀l:List UInt8,l.dropWhile dig= []->∀c∈l,dig c=true:=by
    intro l;induction l with
    | nil=> simp
    | cons x t ih=>
     rw[List.dropWhile_cons];split
     ·rename_i hx
      intro h c hc;rcases List.mem_cons.1 hc with rfl|hc
      ·exact hx
      ·exact ih h c hc
     ·intro h;cases h
   have h2:=h1 _ h;have h3:∀l:List UInt8,(∀c∈l.dropWhile dig,dig c=true)->∀c∈l,dig c=true:=by
    intro l;induction l with
    | nil=> simp
    | cons x t ih=>
     rw[List.dropWhile_cons];split
     ·rename_i hx
      intro h c hc;rcases List.mem_cons.1 hc with rfl|hc
      ·exact hx
      ·exact ih h c hc
     ·intro h c hc;exact h c hc
   exact h3 s.reverse (fun c hc=> h2 c (List.mem_reverse.2 hc)) c (List.mem_reverse.2 hc)
  ·intro h;have h1:∀l:List UInt8,(∀c∈l,dig c=true)->l.dropWhile dig= []:=by
    intro l;induction l with
    | nil=> simp
    | cons x t ih=>
     intro h;rw[List.dropWhile_cons,if_pos (h x (List.mem_cons_self ..))];exact ih fun c hc=> h c (List.mem_cons_of_mem _ hc)
   rw[h1 s.reverse (fun c hc=> h c (List.mem_reverse.1 hc))];rfl
 rw[Bool.eq_iff_iff,beq_iff_eq,h,List.all_eq_true]
section
variable(M:Md prog)(H:View)
theorem HasPrefix_is(s p:List UInt8)(t:Bool)(h:begins s p=t):CallT M 112 #[strV s,strV p] H (fun v H'=> H.le H'/\v=.bool t):=
 CallT.mono (HasPrefix_c M H s p) (by rintro v H' ⟨h1,h2⟩;rw[h] at h2;exact⟨h1,h2⟩)
theorem IndexL_c(k:Bk)(A:Option Addr)(lc:Nat)(hA:RowsAt H k A lc)(hn:k.nl<=1000)(fv:Value)(p:Nat->Bool)(hp:AskL M H fv k p):
  CallT M 231 #[.slice A k.nl lc,fv] H (fun v H'=> H.le H'/\v=.int .i64 (firstI (firstTo p k.nl))):=by
 refine .en func231 ntmps231 fun St c cs hK=> ?_;refine U12 ?_;refine Tc.db (Tc.loopInv (σ:= { j:Nat//j<=k.nl/\firstTo p j=none }) (fun j=> ([(0,.slice A k.nl lc),(1,fv),(7,.int .i64 (k.nl:Nat)),(8,.int .i64 (j.1:Nat))],[])) (fun j=> k.nl-j.1) ?_ ⟨0,Nat.zero_le _,rfl⟩);rintro⟨j,hj,hno⟩ ih;show Tc M St _ _ _ _ [(0,.slice A k.nl lc),(1,fv),(7,.int .i64 (k.nl:Nat)),(8,.int .i64 (j:Nat))] [] _ _;by_cases c1:j=k.nl
 ·subst c1;rw[hno] at hK;refine U11 ?_;refine .rt hK func231 results231 [_] ?_;exact okB
 ·have c2:j<k.nl:=by omega
  obtain⟨_,h0|⟨ab,ao,f,gs,gt,gz,rfl,hb,hl⟩⟩:=hA
  ·omega
  obtain⟨F,fc,f1,_,_⟩:=hl j c2;have hpj:=hp j c2 F fc;cases hpp:p j with
  | true=>
   rw[hpp] at hpj;have e:firstTo p k.nl=some j:=firstTo_stays (j:=j+1) (by simp[firstTo,hno,hpp]) _ oM;rw[e] at hK;refine U21 ?_;refine .c rfl rfl rfl rfl (fun H hs=> hpj H hs.base) ?_;refine U7 ?_;refine .rt hK func231 results231 [_] ?_;exact okB
  | false=>
   rw[hpp] at hpj;refine U21 ?_;refine .c rfl rfl rfl rfl (fun H hs=> hpj H hs.base) ?_;refine U8 ?_;exact Tc.db (ih ⟨j+1,oM,by simp[firstTo,hno,hpp]⟩ (by simp only;omega))
theorem ContainsL_c(k:Bk)(A:Option Addr)(lc:Nat)(hA:RowsAt H k A lc)(hn:k.nl<=1000)(fv:Value)(p:Nat->Bool)(hp:AskL M H fv k p):
  CallT M 223 #[.slice A k.nl lc,fv] H (fun v H'=> H.le H'/\v=.bool (firstTo p k.nl).isSome):=by
 have hi:=fun(H':View) (h':H.le H')=> IndexL_c M H' k A lc (hA.le h') hn fv p (fun i hi F fc H'' hle=> hp i hi F fc H'' (View.le_trans h' hle));cases hq:firstTo p k.nl with
 | none=>
  rw[hq] at hi;have e:firstI none= -1:=rfl;rw[e] at hi;refine .en func223 ntmps223 fun St c cs hK=> ?_;refine U8 ?_;refine .cl (fun H hs=> hi H hs.base) ?_;refine U3 ?_;refine .rt hK func223 results223 [_] ?_;exact okB
 | some j=>
  rw[hq] at hi;have e:firstI (some j)=(j:Nat):=rfl;rw[e] at hi;refine .en func223 ntmps223 fun St c cs hK=> ?_;refine U8 ?_;refine .cl (fun H hs=> hi H hs.base) ?_;refine U3 ?_;refine .rt hK func223 results223 [_] ?_;exact okB
theorem clash1_c(s:List UInt8)(b3:Nat)(f:Bool)(hb:H b3=some (f,.cells ⟨[strV s]⟩ 9 (0,0)))(a num:List UInt8)(F:Option Addr)(n fc:Nat):
  CallT M 232 #[lineV a num F n fc,.pointer (some ⟨b3,0,none⟩)] H (fun v H'=> H.le H'/\v=.bool (clash1 num s)):=by
 cases h1:begins num s with
 | true=>
  have e:clash1 num s=true:=by unfold clash1;rw[h1];rfl
  rw[e];refine .en func232 ntmps232 fun St c cs hK=> ?_;refine U2 ?_;refine .bo fun b2=> ?_;refine U7 ?_;refine .cl (fun H hs=> HasPrefix_is M H num s true h1) ?_;refine U8 ?_;refine .rt hK func232 results232 [_] ?_;exact okB
 | false=>
  have e:clash1 num s=begins s num:=by unfold clash1;rw[h1];rfl
  rw[e];refine .en func232 ntmps232 fun St c cs hK=> ?_;refine U2 ?_;refine .bo fun b2=> ?_;refine U7 ?_;refine .cl (fun H hs=> HasPrefix_is M H num s false h1) ?_;refine U4 ?_;refine .cl (fun H hs=> HasPrefix_c M H s num) ?_;refine U3 ?_;refine .rt hK func232 results232 [_] ?_;exact okB
theorem clashes_c(k:Bk)(A:Option Addr)(lc:Nat)(hA:RowsAt H k A lc)(hn:k.nl<=1000)(s:List UInt8):
  CallT M 225 #[.slice A k.nl lc,strV s] H (fun v H'=> H.le H'/\v=.bool (k.clash s)):=by
 refine .en func225 ntmps225 fun St c cs hK=> ?_;refine U2 ?_;refine .bo fun b3=> ?_;refine U6 ?_;refine .cl (fun H hs=> ContainsL_c M H k A lc (hA.le hs.base) hn _ (fun i=> clash1 (k.num i) s) (fun i _ F fc H' hle=> FnT.of (first:= []) (captured:= [_]) ca232 rfl (clash1_c M H' s b3 true (hle _ _ (hs.get (i:=0) rfl)) (k.name i) (k.num i) F (k.nf i) fc))) ?_;refine U2 ?_;refine .rt hK func225 results225 [_] ?_;exact okB
theorem contains_c(b:Nat)(f:Bool)(gt:TypeId)(gz:Nat×Nat)(hb:H b=some (f,.cells ⟨digSet 10⟩ gt gz))(c0:UInt8):
  CallT M 175 #[.pointer (some ⟨b,0,none⟩),.int .u8 (c0.toNat:Nat)] H (fun v H'=> H.le H'/\v=.bool (dig c0)):=by
 have f1:=digSet_ld c0;have f2:=c0.toNat_lt;refine .en func175 ntmps175 fun St c cs hK=> ?_;refine U13 ?_;refine .rt hK func175 results175 [_] ?_;exact okB
end
section
variable(M:Md prog)(H:View)
theorem makeSet_c:CallT M 157 #[strV digs] H (fun v H'=> H.le H'/\v=.tuple ⟨[.agg ⟨digSet 10⟩,.bool true]⟩):=by
 refine .en func157 ntmps157 fun St c cs hK=> ?_;refine U2 ?_;refine .al fun b2=> ?_;refine U8 ?_;refine Tc.dropB (Tc.loopInv (σ:= { i:Nat//i<=10 }) (fun i=> ([(0,strV digs),(2,.pointer (some ⟨b2,0,none⟩)),(4,.int .i64 (i.1:Nat))],[(b2,true,.cells ⟨digSet i.1⟩ 254 (0,0))])) (fun i=> 10-i.1) ?_ ⟨0,oM⟩) ⟨rfl,rfl,rfl,trivial⟩ (by rw[digSet_zero];exact List.Sublist.refl _);rintro⟨i,hi⟩ ih;show Tc M St _ _ _ _ [(0,strV digs),(2,.pointer (some ⟨b2,0,none⟩)),(4,.int .i64 (i:Nat))] [(b2,true,.cells ⟨digSet i⟩ 254 (0,0))] _ _;have hdl:(digs.length:Nat)=10:=rfl;by_cases c1:i=10
 ·subst c1;refine U16 ?_;refine .rt hK func157 results157 [_,_] ?_;exact okB
 ·have c2:i<10:=by omega
  have f1:digs[((i:Nat):Int).toNat]? =some (UInt8.ofNat (48+i)):=by rw[Int.toNat_natCast];exact digs_at i c2
  have f2:(UInt8.ofNat (48+i)).toNat=48+i:=by rw[UInt8.toNat_ofNat'];omega
  have f3:=digSet_st i c2;have f4:Nat.ble (0+((48+i:Nat):Int).toNat*1+1) (digSet i).length=true:=by
   refine Nat.ble_eq_true_of_le ?_;rw[Int.toNat_natCast];unfold digSet;rw[List.length_map,List.length_range];omega
  refine U19 ?_;rw[f2];refine U19 ?_;exact Tc.db (ih ⟨i+1,oM⟩ (by simp only;omega))
theorem trimRight_c(b:Nat)(f:Bool)(gt:TypeId)(gz:Nat×Nat)(hb:H b=some (f,.cells ⟨digSet 10⟩ gt gz))(s:List UInt8)(hl:s.length<=1000000):
  CallT M 159 #[strV s,.pointer (some ⟨b,0,none⟩)] H (fun v H'=> H.le H'/\v=strV (trimR s)):=by
 refine .en func159 ntmps159 fun St c cs hK=> ?_;refine U6 ?_;refine Tc.db (Tc.loopInv (σ:= { r:List UInt8//trimR r=trimR s/\r.length<=s.length }) (fun r=> ([(0,strV r.1),(1,.pointer (some ⟨b,0,none⟩))],[])) (fun r=> r.1.length) ?_ ⟨s,rfl,Nat.le_refl _⟩);rintro⟨r,hr,hlr⟩ ih;show Tc M St _ _ _ _ [(0,strV r),(1,.pointer (some ⟨b,0,none⟩))] [] _ _;have hsn:r= []\/∃q x,r=q++[x]:=by
  rcases List.eq_nil_or_concat r with h|⟨q,x,h⟩
  ·exact .inl h
  ·exact .inr ⟨q,x,by rw[h,List.concat_eq_append]⟩
 rcases hsn with rfl|⟨q,x,rfl⟩
 ·have e:trimR s= []:=by rw[<-hr];rfl
  rw[e] at hK;refine U14 ?_;refine .rt hK func159 results159 [_] ?_;exact okB
 ·have l1:(q++[x]).length=q.length+1:=by simp
  have f1:(q++[x])[(((q++[x]).length:Nat)-1:Int).toNat]? =some x:=by
   rw[l1,show(((q.length+1:Nat):Int)-1).toNat=q.length by omega];simp
  cases hx:dig x with
  | false=>
   have e:trimR s=q++[x]:=by rw[<-hr];exact trimR_stop q x hx
   have hc:=fun(H':View) (h':H.le H')=> contains_c M H' b f gt gz (h' _ _ hb) x;rw[hx] at hc;rw[e] at hK;refine U19 ?_;refine .cl (fun H hs=> hc H hs.base) ?_;refine U9 ?_;refine .rt hK func159 results159 [_] ?_;exact okB
  | true=>
   have hc:=fun(H':View) (h':H.le H')=> contains_c M H' b f gt gz (h' _ _ hb) x;rw[hx] at hc;have e:((q++[x]).drop ((0:Nat):Int).toNat).take ((((q++[x]).length:Nat)-1:Int).toNat-((0:Nat):Int).toNat)=q:=by
    rw[l1,show(((q.length+1:Nat):Int)-1).toNat=q.length by omega];simp
   refine U19 ?_;refine .cl (fun H hs=> hc H hs.base) ?_;refine U9 ?_;refine .x (OpV.sliceS (E:=en) rfl rfl rfl rfl rfl rfl oM oM oM) ?_;refine U2 ?_;rw[e];refine U ?_;exact Tc.db (ih ⟨q,by rw[<-hr,trimR_snoc q x hx],oM⟩ (by simp only;omega))
theorem trimLeft_c(b:Nat)(f:Bool)(gt:TypeId)(gz:Nat×Nat)(hb:H b=some (f,.cells ⟨digSet 10⟩ gt gz))(s:List UInt8)(hl:s.length<=1000000):
  CallT M 158 #[strV s,.pointer (some ⟨b,0,none⟩)] H (fun v H'=> H.le H'/\v=strV (s.dropWhile dig)):=by
 refine .en func158 ntmps158 fun St c cs hK=> ?_;refine U6 ?_;refine Tc.db (Tc.loopInv (σ:= { r:List UInt8//r.dropWhile dig=s.dropWhile dig/\r.length<=s.length }) (fun r=> ([(0,strV r.1),(1,.pointer (some ⟨b,0,none⟩))],[])) (fun r=> r.1.length) ?_ ⟨s,rfl,Nat.le_refl _⟩);rintro⟨r,hr,hlr⟩ ih;show Tc M St _ _ _ _ [(0,strV r),(1,.pointer (some ⟨b,0,none⟩))] [] _ _;rcases r with _|⟨x,q⟩
 ·have e:s.dropWhile dig= []:=by rw[<-hr];rfl
  rw[e] at hK;refine U14 ?_;refine .rt hK func158 results158 [_] ?_;exact okB
 ·have l1:(x::q).length=q.length+1:=rfl;have f1:(x::q)[(0:Int).toNat]? =some x:=rfl;cases hx:dig x with
  | false=>
   have e:s.dropWhile dig=x::q:=by rw[<-hr,List.dropWhile_cons,hx];rfl
   have hc:=fun(H':View) (h':H.le H')=> contains_c M H' b f gt gz (h' _ _ hb) x;rw[hx] at hc;rw[e] at hK;refine U16 ?_;refine .cl (fun H hs=> hc H hs.base) ?_;refine U9 ?_;refine .rt hK func158 results158 [_] ?_;exact okB
  | true=>
   have hc:=fun(H':View) (h':H.le H')=> contains_c M H' b f gt gz (h' _ _ hb) x;rw[hx] at hc;have e:((x::q).drop (1:Int).toNat).take ((((x::q).length:Nat):Int).toNat-(1:Int).toNat)=q:=by
    rw[l1,show(((q.length+1:Nat):Int)).toNat-(1:Int).toNat=q.length by omega];simp
   refine U16 ?_;refine .cl (fun H hs=> hc H hs.base) ?_;refine U6 ?_;refine .x (OpV.sliceS (E:=en) rfl rfl rfl rfl rfl rfl oM oM oM) ?_;refine U2 ?_;rw[e];refine U ?_;exact Tc.db (ih ⟨q,by rw[<-hr,List.dropWhile_cons,hx];rfl,oM⟩ (by simp only;omega))
theorem Trim_c(s:List UInt8)(hl:s.length<=1000000):CallT M 122 #[strV s,strV digs] H (fun v H'=> H.le H'/\v=strV (trimD s)):=by
 rcases s with _|⟨x,q⟩
 ·have e:trimD []= []:=rfl;rw[e];refine .en func122 ntmps122 fun St c cs hK=> ?_;refine U20 ?_;refine .rt hK func122 results122 [_] ?_;exact okB
 ·have hlr:(trimR (x::q)).length<=1000000:=by
   unfold trimR;rw[List.length_reverse];have:=(List.dropWhile_sublist dig (l:=(x::q).reverse)).length_le;rw[List.length_reverse] at this;omega
  refine .en func122 ntmps122 fun St c cs hK=> ?_;refine U34 ?_;refine .cl (fun H hs=> makeSet_c M H) ?_;refine U3 ?_;refine .al fun b5=> ?_;refine U11 ?_;refine .cl (fun H hs=> trimRight_c M H b5 true _ _ (hs.get (i:=0) rfl) (x::q) hl) ?_;refine .cl (fun H hs=> trimLeft_c M H b5 true _ _ (hs.get (i:=0) rfl) (trimR (x::q)) hlr) ?_;refine U2 ?_;refine .rt hK func122 results122 [_] ?_;exact okB
theorem isNumber_c(s:List UInt8)(hl:s.length<=1000000):CallT M 68 #[strV s] H (fun v H'=> H.le H'/\v=.bool (isNum s)):=by
 by_cases c1:1<=(s.length:Int)/\(s.length:Int)<=3
 ·have e:isNum s=(trimD s== []):=by
   unfold isNum;rw[trimD_nil];have:decide (1<=s.length/\s.length<=3)=true:=decide_eq_true oM;rw[this];rfl
  rw[e];have hb:=fun(H':View)=> between_is M H' (s.length:Nat) 1 3 true (decide_eq_true c1);refine .en func68 ntmps68 fun St c cs hK=> ?_;refine U8 ?_;refine .cl (fun H hs=> hb H) ?_;refine U2 ?_;refine .cl (fun H hs=> Trim_c M H s hl) ?_;refine U4 ?_;refine .rt hK func68 results68 [_] ?_;exact okB
 ·have e:isNum s=false:=by
   unfold isNum;have:decide (1<=s.length/\s.length<=3)=false:=decide_eq_false oM;rw[this];rfl
  rw[e];have hb:=fun(H':View)=> between_is M H' (s.length:Nat) 1 3 false (decide_eq_false c1);refine .en func68 ntmps68 fun St c cs hK=> ?_;refine U8 ?_;refine .cl (fun H hs=> hb H) ?_;refine U7 ?_;refine .rt hK func68 results68 [_] ?_;exact okB
end
def low(c:UInt8):Bool:=decide (97<=c.toNat/\c.toNat<=122)
def nmAt(s:List UInt8)(i:Nat):Bool:=match s[i]? with
 | some c=> low c||(decide (0<i)&&dig c)
 | none=> true
def allB(p:Nat->Bool):Nat->Bool
 | 0=> true
 | n+1=> allB p n&&p n
theorem allB_iff {p:Nat->Bool}:∀n,allB p n=true<->∀i,i<n->p i=true
 | 0=> ⟨fun _ i hi=> by omega,fun _=> rfl⟩
 | n + 1=> by
  unfold allB;rw[Bool.and_eq_true,allB_iff n];constructor
  ·rintro⟨h1,h2⟩ i hi;by_cases e:i=n
   ·subst e;exact h2
   ·exact h1 i oM
  ·exact fun h=> ⟨fun i hi=> h i oM,h n oM⟩
theorem allB_not {p:Nat->Bool}{n i:Nat}(hi:i<n)(h:p i=false):allB p n=false:=by
 cases e:allB p n with
 | false=> rfl
 | true=> rw[(allB_iff n).1 e i hi] at h;cases h
def isNm(s:List UInt8):Bool:=decide (1<=s.length/\s.length<=9)&&allB (nmAt s) s.length
theorem dec_at(s:List UInt8)(p:Nat)(hp:p<s.length):∃z w,Utf8.decode ⟨⟨s⟩⟩ p=(z,w)/\z<=2147483647/\∃x,s[p]? =some x/\(x.toNat<128->z=x.toNat/\w=1)/\(128<=x.toNat->128<=z):=by
 have hs:p<(ByteArray.mk ⟨s⟩).size:=hp;refine⟨(Utf8.decode ⟨⟨s⟩⟩ p).1,(Utf8.decode ⟨⟨s⟩⟩ p).2,rfl,decode_le _ _,(ByteArray.mk ⟨s⟩)[p]'hs,?_,?_,?_⟩
 ·rw[List.getElem?_eq_getElem hp];rfl
 ·intro h;rw[decode_ascii _ p hs h];exact⟨rfl,rfl⟩
 ·intro h;exact(decode_high _ p hs h).1
section
variable(M:Md prog)(H:View)
theorem isName_c(s:List UInt8):CallT M 222 #[strV s] H (fun v H'=> H.le H'/\v=.bool (isNm s)):=by
 by_cases c1:1<=(s.length:Int)/\(s.length:Int)<=9
 ·have e0 : isNm s=allB (nmAt s) s.length:=by
   unfold isNm;have:decide (1<=s.length/\s.length<=9)=true:=decide_eq_true oM;rw[this];rfl
  have hb:=fun(H':View)=> between_is M H' (s.length:Nat) 1 9 true (decide_eq_true c1);rw[e0];refine .en func222 ntmps222 fun St c cs hK=> ?_;refine U9 ?_;refine .cl (fun H hs=> hb H) ?_;refine U8 ?_;refine .e (Or.rangeS (E:=en) (s:=⟨⟨s⟩⟩) rfl rfl rfl rfl rfl dE (fun it=> ?_));refine U2 ?_;refine Tc.db (Tc.loopInv (σ:= { p:Nat//p<=s.length/\∀i,i<p->nmAt s i=true }) (fun p=> ([(10,.pointer (some ⟨it,0,none⟩))],[(it,true,.stringIter ⟨⟨s⟩⟩ p.1)])) (fun p=> s.length-p.1) ?_ ⟨0,Nat.zero_le _,fun i hi=> by omega⟩);rintro⟨p,hp,hall⟩ ih;show Tc M St _ _ _ _ [(10,.pointer (some ⟨it,0,none⟩))] [(it,true,.stringIter ⟨⟨s⟩⟩ p)] _ _;by_cases c2:p=s.length
  ·have e:allB (nmAt s) s.length=true:=(allB_iff _).2 (by rw[<-c2];exact hall);rw[e] at hK;have hnp:¬p<(ByteArray.mk ⟨s⟩).size:=by show ¬p<s.length;omega
   refine U2 ?_;refine .e (Or.nextS0 0 rfl rfl rfl hnp rfl dE ?_);refine U9 ?_;refine .rt hK func222 results222 [_] ?_;exact okB
  ·have c3 :p<s.length:=by omega
   obtain⟨z,w,hdec,hz,x,hx,hlo,hhi⟩:=dec_at s p c3;have hps:p<(ByteArray.mk ⟨s⟩).size:=c3;have wz:IntKind.i64.wrap ((z:Nat):Int)=((z:Nat):Int):=wrap64 oM oM;have hxm:=x.toNat_lt;by_cases c4:97<=((z:Nat):Int)/\((z:Nat):Int)<=122
   ·have hx1:x.toNat<128:=by
     by_cases h:x.toNat<128
     ·exact h
     ·have:=hhi oM;omega
    obtain⟨h1,rfl⟩:=hlo hx1;have hn:nmAt s p=true:=by
     unfold nmAt;rw[hx];have:low x=true:=decide_eq_true oM;simp[this]
    have hbz:=fun(H':View)=> between_is M H' (z:Nat) 97 122 true (decide_eq_true c4);have hbd:=fun(H':View)=> between_c M H' (z:Nat) 48 57;refine U2 ?_;refine .e (Or.nextS 0 rfl rfl rfl hps hdec rfl dE ?_);refine U17 ?_;refine .cl (fun H hs=> hbz H) ?_;refine U5 ?_;refine To.skippedU rfl dE rfl ?_;refine To.skippedU rfl dE rfl ?_;refine To.skippedU rfl dE rfl ?_;refine To.skippedU rfl dE rfl ?_;refine U6 ?_;exact Tc.db (ih ⟨p+1,oM,fun i hi=> by by_cases e:i=p;exact e▸hn;exact hall i oM⟩ (by simp only;omega))
   ·have hbz:=fun(H':View)=> between_is M H' (z:Nat) 97 122 false (decide_eq_false c4);have hlw:low x=false:=by
     refine decide_eq_false ?_;intro h;obtain⟨h1,_⟩:=hlo oM;omega
    by_cases c5:p=0
    ·subst c5;have e:allB (nmAt s) s.length=false:=allB_not c3 (by unfold nmAt;rw[hx];simp[hlw]);have hbd:=fun(H':View)=> between_c M H' (z:Nat) 48 57;rw[e] at hK;refine U2 ?_;refine .e (Or.nextS 0 rfl rfl rfl hps hdec rfl dE ?_);refine U17 ?_;refine .cl (fun H hs=> hbz H) ?_;refine U17 ?_;refine .rt hK func222 results222 [_] ?_;exact okB
    ·have c6:(p:Int)≠0:=by omega
     by_cases c7:48<=((z:Nat):Int)/\((z:Nat):Int)<=57
     ·have hx1:x.toNat<128:=by
       by_cases h:x.toNat<128
       ·exact h
       ·have:=hhi oM;omega
      obtain⟨h1,rfl⟩:=hlo hx1;have hn:nmAt s p=true:=by
       unfold nmAt;rw[hx];have:dig x=true:=decide_eq_true oM;have h0:0<p:=by omega
       simp[this,h0]
      have hbd:=fun(H':View)=> between_is M H' (z:Nat) 48 57 true (decide_eq_true c7);refine U2 ?_;refine .e (Or.nextS 0 rfl rfl rfl hps hdec rfl dE ?_);refine U17 ?_;refine .cl (fun H hs=> hbz H) ?_;refine U7 ?_;refine .cl (fun H hs=> hbd H) ?_;refine U7 ?_;exact Tc.db (ih ⟨p+1,oM,fun i hi=> by by_cases e:i=p;exact e▸hn;exact hall i oM⟩ (by simp only;omega))
     ·have hdg:dig x=false:=by
       refine decide_eq_false ?_;intro h;obtain⟨h1,_⟩:=hlo oM;omega
      have e:allB (nmAt s) s.length=false:=allB_not c3 (by unfold nmAt;rw[hx];simp[hlw,hdg]);have hbd:=fun(H':View)=> between_is M H' (z:Nat) 48 57 false (decide_eq_false c7);rw[e] at hK;refine U2 ?_;refine .e (Or.nextS 0 rfl rfl rfl hps hdec rfl dE ?_);refine U17 ?_;refine .cl (fun H hs=> hbz H) ?_;refine U7 ?_;refine .cl (fun H hs=> hbd H) ?_;refine U9 ?_;refine .rt hK func222 results222 [_] ?_;exact okB
 ·have e0:isNm s=false:=by
   unfold isNm;have:decide (1<=s.length/\s.length<=9)=false:=decide_eq_false oM;rw[this];rfl
  have hb:=fun(H':View)=> between_is M H' (s.length:Nat) 1 9 false (decide_eq_false c1);rw[e0];refine .en func222 ntmps222 fun St c cs hK=> ?_;refine U9 ?_;refine .cl (fun H hs=> hb H) ?_;refine U7 ?_;refine .rt hK func222 results222 [_] ?_;exact okB
end
theorem isV {M:Md prog}{f:FuncId}{az:Array Value}{H:View}{w w':Value}(h:CallT M f az H fun v H'=> H.le H'/\v=w)(e:w=w'):CallT M f az H fun v H'=> H.le H'/\v=w':=e▸h
theorem isB {M:Md prog}{f:FuncId}{az:Array Value}{H:View}{w w':Bool}(h:CallT M f az H fun v H'=> H.le H'/\v=.bool w)(e:w=w'):CallT M f az H fun v H'=> H.le H'/\v=.bool w':=e▸h
def firstA(f:Nat->Int):Nat->Int
 | 0=> 0
 | n+1=> if firstA f n=0 then f n else firstA f n
theorem firstA_stays {f:Nat->Int}{j:Nat}(h:firstA f j≠0):∀m,j<=m->firstA f m=firstA f j:=by
 intro m hm;induction m with
 | zero=>
  have:j=0:=by omega
  subst this;rfl
 | succ m ih=>
  by_cases e:j=m+1
  ·subst e;rfl
  ·rw[firstA,ih oM,if_neg h]
theorem firstA_at {f:Nat->Int}{j:Nat}(h0:firstA f j=0){a:Int}(h:f j=a)(ha:a≠0){m:Nat}(hm:j<m):firstA f m=a:=by
 have h1:firstA f (j+1)=a:=by rw[firstA,if_pos h0];exact h
 rw[firstA_stays (j:=j+1) (by rw[h1];exact ha) m oM,h1]
def claimOk(x:Int):Bool:=decide (0<=x/\x<=2)
def Bk.pausesA(k:Bk):Int:=if(1<=k.gap/\k.gap<=99)/\(k.gap+1<=k.give/\k.give<=99) then 0 else 1
def Bk.trainBad(k:Bk)(i:Nat):Bool:=!trainOk (k.pf i) (k.pt i) (k.qf i) (k.qt i)
def Bk.trainsA(k:Bk):Int:=if 6<k.nt then 2 else if(firstTo k.trainBad k.nt).isSome then 1 else 0
section
variable(M:Md prog)(H:View)
theorem IndexC_c(F:Option Addr)(n fc:Nat)(x:Nat->Int)(hF:FreeAt H F n x)(hn:n<=1000)(fv:Value)(p:Nat->Bool)(hp:∀j,j<n->∀H',H.le H'->FnT M fv [.int .i64 (x j)] H' fun v H''=> H'.le H''/\v=.bool (p j)):
  CallT M 233 #[.slice F n fc,fv] H (fun v H'=> H.le H'/\v=.int .i64 (firstI (firstTo p n))):=by
 refine .en func233 ntmps233 fun St c cs hK=> ?_;refine U12 ?_;refine Tc.db (Tc.loopInv (σ:= { j:Nat//j<=n/\firstTo p j=none }) (fun j=> ([(0,.slice F n fc),(1,fv),(7,.int .i64 (n:Nat)),(8,.int .i64 (j.1:Nat))],[])) (fun j=> n-j.1) ?_ ⟨0,Nat.zero_le _,rfl⟩);rintro⟨j,hj,hno⟩ ih;show Tc M St _ _ _ _ [(0,.slice F n fc),(1,fv),(7,.int .i64 (n:Nat)),(8,.int .i64 (j:Nat))] [] _ _;by_cases c1:j=n
 ·subst c1;rw[hno] at hK;refine U11 ?_;refine .rt hK func233 results233 [_] ?_;exact okB
 ·have c2:j<n:=by omega
  obtain h0|⟨ab,ao,f,gs,gt,gz,rfl,hb,hl⟩:=hF
  ·omega
  have f1:=hl j c2;have hpj:=hp j c2;cases hpp:p j with
  | true=>
   rw[hpp] at hpj;have e:firstTo p n=some j:=firstTo_stays (j:=j+1) (by simp[firstTo,hno,hpp]) _ oM;rw[e] at hK;refine U21 ?_;refine .c rfl rfl rfl rfl (fun H hs=> hpj H hs.base) ?_;refine U7 ?_;refine .rt hK func233 results233 [_] ?_;exact okB
  | false=>
   rw[hpp] at hpj;refine U21 ?_;refine .c rfl rfl rfl rfl (fun H hs=> hpj H hs.base) ?_;refine U8 ?_;exact Tc.db (ih ⟨j+1,oM,by simp[firstTo,hno,hpp]⟩ (by simp only;omega))
theorem claimBad_c(x:Int):CallT M 227 #[.int .i64 x] H (fun v H'=> H.le H'/\v=.bool (!claimOk x)):=by
 cases h:claimOk x with
 | true=>
  refine .en func227 ntmps227 fun St c cs hK=> ?_;refine U7 ?_;refine .cl (fun H hs=> between_is M H x 0 2 true h) ?_;refine U3 ?_;refine .rt hK func227 results227 [_] ?_;exact okB
 | false=>
  refine .en func227 ntmps227 fun St c cs hK=> ?_;refine U7 ?_;refine .cl (fun H hs=> between_is M H x 0 2 false h) ?_;refine U3 ?_;refine .rt hK func227 results227 [_] ?_;exact okB
theorem ContainsC_c(F:Option Addr)(n fc:Nat)(x:Nat->Int)(hF:FreeAt H F n x)(hn:n<=1000):
  CallT M 226 #[.slice F n fc,.func (.func 227) #[] #[]] H (fun v H'=> H.le H'/\v=.bool (firstTo (fun j=> !claimOk (x j)) n).isSome):=by
 have hi:=fun(H':View) (h':H.le H')=> IndexC_c M H' F n fc x (hF.le h') hn (.func (.func 227) #[] #[]) (fun j=> !claimOk (x j)) (fun j _ H'' _=> .h (claimBad_c M H'' (x j)));cases hq:firstTo (fun j=> !claimOk (x j)) n with
 | none=>
  rw[hq] at hi;have e:firstI none= -1:=rfl;rw[e] at hi;refine .en func226 ntmps226 fun St c cs hK=> ?_;refine U8 ?_;refine .cl (fun H hs=> hi H hs.base) ?_;refine U3 ?_;refine .rt hK func226 results226 [_] ?_;exact okB
 | some j=>
  rw[hq] at hi;have e:firstI (some j)=(j:Nat):=rfl;rw[e] at hi;refine .en func226 ntmps226 fun St c cs hK=> ?_;refine U8 ?_;refine .cl (fun H hs=> hi H hs.base) ?_;refine U3 ?_;refine .rt hK func226 results226 [_] ?_;exact okB
theorem trainBad_c(a b c' d:Int):CallT M 229 #[trainV a b c' d] H (fun v H'=> H.le H'/\v=.bool (!trainOk a b c' d)):=by
 cases h:trainOk a b c' d with
 | true=>
  have ht:=fun(H':View)=> isB (isTrain_c M H' a b c' d) h;refine .en func229 ntmps229 fun St c cs hK=> ?_;refine U2 ?_;refine .bo fun b1=> ?_;refine U5 ?_;refine .cl (fun H hs=> ht H) ?_;refine U3 ?_;refine .rt hK func229 results229 [_] ?_;exact okB
 | false=>
  have ht:=fun(H':View)=> isB (isTrain_c M H' a b c' d) h;refine .en func229 ntmps229 fun St c cs hK=> ?_;refine U2 ?_;refine .bo fun b1=> ?_;refine U5 ?_;refine .cl (fun H hs=> ht H) ?_;refine U3 ?_;refine .rt hK func229 results229 [_] ?_;exact okB
theorem IndexT_c(k:Bk)(B:Option Addr)(tc:Nat)(hB:TrainsAt H k B tc)(hn:k.nt<=1000):
  CallT M 234 #[.slice B k.nt tc,.func (.func 229) #[] #[]] H (fun v H'=> H.le H'/\v=.int .i64 (firstI (firstTo k.trainBad k.nt))):=by
 refine .en func234 ntmps234 fun St c cs hK=> ?_;refine U12 ?_;refine Tc.db (Tc.loopInv (σ:= { j:Nat//j<=k.nt/\firstTo k.trainBad j=none }) (fun j=> ([(0,.slice B k.nt tc),(1,.func (.func 229) #[] #[]),(7,.int .i64 (k.nt:Nat)),(8,.int .i64 (j.1:Nat))],[])) (fun j=> k.nt-j.1) ?_ ⟨0,Nat.zero_le _,rfl⟩);rintro⟨j,hj,hno⟩ ih;show Tc M St _ _ _ _ [(0,.slice B k.nt tc),(1,.func (.func 229) #[] #[]),(7,.int .i64 (k.nt:Nat)),(8,.int .i64 (j:Nat))] [] _ _;by_cases c1:j=k.nt
 ·subst c1;rw[hno] at hK;refine U11 ?_;refine .rt hK func234 results234 [_] ?_;exact okB
 ·have c2:j<k.nt:=by omega
  obtain⟨_,h0|⟨ab,ao,f,gs,gt,gz,rfl,hb,hl⟩⟩:=hB
  ·omega
  have f1:=hl j c2;cases hpp:k.trainBad j with
  | true=>
   have ht:=fun(H':View)=> isB (trainBad_c M H' (k.pf j) (k.pt j) (k.qf j) (k.qt j)) hpp;have e:firstTo k.trainBad k.nt=some j:=firstTo_stays (j:=j+1) (by simp[firstTo,hno,hpp]) _ oM;rw[e] at hK;refine U21 ?_;refine .cl (fun H hs=> ht H) ?_;refine U7 ?_;refine .rt hK func234 results234 [_] ?_;exact okB
  | false=>
   have ht:=fun(H':View)=> isB (trainBad_c M H' (k.pf j) (k.pt j) (k.qf j) (k.qt j)) hpp;refine U21 ?_;refine .cl (fun H hs=> ht H) ?_;refine U8 ?_;exact Tc.db (ih ⟨j+1,oM,by simp[firstTo,hno,hpp]⟩ (by simp only;omega))
theorem ContainsT_c(k:Bk)(B:Option Addr)(tc:Nat)(hB:TrainsAt H k B tc)(hn:k.nt<=1000):
  CallT M 228 #[.slice B k.nt tc,.func (.func 229) #[] #[]] H (fun v H'=> H.le H'/\v=.bool (firstTo k.trainBad k.nt).isSome):=by
 have hi:=fun(H':View) (h':H.le H')=> IndexT_c M H' k B tc (hB.le h') hn;cases hq:firstTo k.trainBad k.nt with
 | none=>
  rw[hq] at hi;have e:firstI none= -1:=rfl;rw[e] at hi;refine .en func228 ntmps228 fun St c cs hK=> ?_;refine U8 ?_;refine .cl (fun H hs=> hi H hs.base) ?_;refine U3 ?_;refine .rt hK func228 results228 [_] ?_;exact okB
 | some j=>
  rw[hq] at hi;have e:firstI (some j)=(j:Nat):=rfl;rw[e] at hi;refine .en func228 ntmps228 fun St c cs hK=> ?_;refine U8 ?_;refine .cl (fun H hs=> hi H hs.base) ?_;refine U3 ?_;refine .rt hK func228 results228 [_] ?_;exact okB
theorem trains_c(k:Bk)(A:Option Addr)(lc:Nat)(B:Option Addr)(tc:Nat)(hB:TrainsAt H k B tc)(hn:k.nt<=1000):
  CallT M 221 #[k.val A lc B tc] H (fun v H'=> H.le H'/\v=.int .i64 k.trainsA):=by
 by_cases c1:6<k.nt
 ·have e:k.trainsA=2:=if_pos c1;rw[e];refine .en func221 ntmps221 fun St c cs hK=> ?_;refine U2 ?_;refine .bo fun b1=> ?_;refine U18 ?_;refine .rt hK func221 results221 [_] ?_;exact okB
 ·have hc:=fun(H':View) (h':H.le H')=> ContainsT_c M H' k B tc (hB.le h') hn;cases hq:(firstTo k.trainBad k.nt).isSome with
  | true=>
   rw[hq] at hc;have e:k.trainsA=1:=by unfold Bk.trainsA;rw[if_neg c1,hq];rfl
   rw[e];refine .en func221 ntmps221 fun St c cs hK=> ?_;refine U2 ?_;refine .bo fun b1=> ?_;refine U19 ?_;refine .cl (fun H hs=> hc H hs.base) ?_;refine U7 ?_;refine .rt hK func221 results221 [_] ?_;exact okB
  | false=>
   rw[hq] at hc;have e:k.trainsA=0:=by unfold Bk.trainsA;rw[if_neg c1,hq];rfl
   rw[e];refine .en func221 ntmps221 fun St c cs hK=> ?_;refine U2 ?_;refine .bo fun b1=> ?_;refine U19 ?_;refine .cl (fun H hs=> hc H hs.base) ?_;refine U9 ?_;refine .rt hK func221 results221 [_] ?_;exact okB
theorem pauses_c(k:Bk)(A:Option Addr)(lc:Nat)(B:Option Addr)(tc:Nat):
  CallT M 219 #[k.val A lc B tc] H (fun v H'=> H.le H'/\v=.int .i64 k.pausesA):=by
 by_cases c1:1<=k.gap/\k.gap<=99
 ·by_cases c2:k.gap+1<=k.give/\k.give<=99
  ·have e:k.pausesA=0:=if_pos ⟨c1,c2⟩;rw[e];have h1:=fun(H':View)=> between_is M H' k.gap 1 99 true (decide_eq_true c1);have h2:=fun(H':View)=> between_is M H' k.give (k.gap+1) 99 true (decide_eq_true c2);refine .en func219 ntmps219 fun St c cs hK=> ?_;refine U2 ?_;refine .bo fun b1=> ?_;refine U8 ?_;refine .cl (fun H hs=> h1 H) ?_;refine U9 ?_;refine .cl (fun H hs=> h2 H) ?_;refine U9 ?_;refine .rt hK func219 results219 [_] ?_;exact okB
  ·have e:k.pausesA=1:=if_neg (fun h=> c2 h.2);rw[e];have h1:=fun(H':View)=> between_is M H' k.gap 1 99 true (decide_eq_true c1);have h2:=fun(H':View)=> between_is M H' k.give (k.gap+1) 99 false (decide_eq_false c2);refine .en func219 ntmps219 fun St c cs hK=> ?_;refine U2 ?_;refine .bo fun b1=> ?_;refine U8 ?_;refine .cl (fun H hs=> h1 H) ?_;refine U9 ?_;refine .cl (fun H hs=> h2 H) ?_;refine U8 ?_;refine .rt hK func219 results219 [_] ?_;exact okB
 ·have e:k.pausesA=1:=if_neg (fun h=> c1 h.1);rw[e];have h1:=fun(H':View)=> between_is M H' k.gap 1 99 false (decide_eq_false c1);refine .en func219 ntmps219 fun St c cs hK=> ?_;refine U2 ?_;refine .bo fun b1=> ?_;refine U8 ?_;refine .cl (fun H hs=> h1 H) ?_;refine U18 ?_;refine .rt hK func219 results219 [_] ?_;exact okB
end
set_option maxHeartbeats 8000000
def Bk.pre(k:Bk)(i:Nat):Bk:= { k with nl:=i }
def Bk.again(k:Bk)(i:Nat):Bool:=(firstTo (fun j=> k.name j==k.name i) i).isSome
def Bk.freeBad(k:Bk)(i:Nat):Bool:=(firstTo (fun j=> !claimOk (k.free i j)) (k.nf i)).isSome
def Bk.lineA(k:Bk)(i:Nat):Int:=if isNm (k.name i)=false then 4 else if k.again i=true then 5 else if isNum (k.num i)=false then 3 else if(k.pre i).clash (k.num i)=true then 10 else if decide (1<=((k.nf i:Nat):Int)/\((k.nf i:Nat):Int)<=4)=false then 2 else if k.freeBad i=true then 1 else 0
def Bk.linesA(k:Bk):Int:=if 6<k.nl then 2 else firstA k.lineA k.nl
def Bk.alarm(k:Bk):Int:=if k.pausesA=0 then if k.linesA=0 then k.trainsA else k.linesA else k.pausesA
theorem RowsAt.pre {H:View}{k:Bk}{A:Option Addr}{lc:Nat}(h:RowsAt H k A lc){i:Nat}(hi:i<=k.nl):RowsAt H (k.pre i) A lc:=by
 obtain⟨h1,h2⟩:=h;refine⟨Nat.le_trans hi h1,?_⟩;rcases h2 with h2|⟨b,o,f,gs,gt,gz,h3,h4,h5⟩
 ·exact .inl (by show i=0;omega)
 ·exact .inr ⟨b,o,f,gs,gt,gz,h3,h4,fun j hj=> h5 j (Nat.lt_of_lt_of_le hj hi)⟩
section
variable(M:Md prog)(H:View)
theorem same_c(nm:List UInt8)(b3:Nat)(f:Bool)(c0:List Value)(hb:H b3=some (f,.cells ⟨strV nm::c0⟩ 69 (0,0)))(a num:List UInt8)(F:Option Addr)(n fc:Nat):
  CallT M 224 #[lineV a num F n fc,.pointer (some ⟨b3,0,none⟩)] H (fun v H'=> H.le H'/\v=.bool (a==nm)):=by
 refine .en func224 ntmps224 fun St c cs hK=> ?_;refine U2 ?_;refine .bo fun b2=> ?_;refine U11 ?_;refine .rt hK func224 results224 [_] ?_;exact okB
theorem lines_c (k:Bk)(A:Option Addr)(lc:Nat)(B:Option Addr)(tc:Nat)(hA:RowsAt H k A lc)(hn:k.nl<=1000)(hs0:∀i,i<k.nl->(k.num i).length<=1000000/\k.nf i<=1000):
  CallT M 220 #[k.val A lc B tc] H (fun v H'=> H.le H'/\v=.int .i64 k.linesA):=by
 by_cases c1:6<k.nl
 ·have e:k.linesA=2:=if_pos c1;rw[e];refine .en func220 ntmps220 fun St c cs hK=> ?_;refine U2 ?_;refine .bo fun b1=> ?_;refine U16 ?_;refine .rt hK func220 results220 [_] ?_;exact okB
 ·have e:k.linesA=firstA k.lineA k.nl:=if_neg c1;rw[e];clear e;refine .en func220 ntmps220 fun St c cs hK=> ?_;refine U2 ?_;refine .bo fun b1=> ?_;refine U23 ?_;refine Tc.db (Tc.loopInv (σ:= { j:Nat//j<=k.nl/\firstA k.lineA j=0 }) (fun j=> ([(1,.pointer (some ⟨b1,0,none⟩)),(13,.slice A k.nl lc),(14,.int .i64 (k.nl:Nat)),(15,.int .i64 (j.1:Nat))],[(b1,true,.cells ⟨(k.val A lc B tc).cells.toList⟩ 128 (0,0))])) (fun j=> k.nl-j.1) ?_ ⟨0,Nat.zero_le _,rfl⟩);rintro⟨j,hj,hno⟩ ih;show Tc M St _ _ _ _ [(1,.pointer (some ⟨b1,0,none⟩)),(13,.slice A k.nl lc),(14,.int .i64 (k.nl:Nat)),(15,.int .i64 (j:Nat))] [(b1,true,.cells ⟨(k.val A lc B tc).cells.toList⟩ 128 (0,0))] _ _;by_cases c2:j=k.nl
  ·subst c2;rw[hno] at hK;refine U11 ?_;refine .rt hK func220 results220 [_] ?_;exact okB
  ·have c3 : j < k.nl:=by omega
   have hA':=hA;obtain⟨hlc,h0|⟨ab,ao,f,gs,gt,gz,rfl,hb,hl⟩⟩:=hA
   ·omega
   obtain⟨F,fc,f1,_,hF⟩:=hl j c3;obtain⟨s1,s2⟩:=hs0 j c3;have hA2:RowsAt H (k.pre j) (some ⟨ab,ao,none⟩) lc:=hA'.pre hj;cases q0:isNm (k.name j) with
   | false=>
    have eA:k.lineA j=4:=by unfold Bk.lineA;simp only[q0];simp
    rw[firstA_at hno eA dE c3] at hK;refine U14 ?_;refine .al fun b4=> ?_;refine U9 ?_;refine .x (OpV.sliceTo (E:=en) (k:=j) rfl rfl rfl rfl rfl rfl oM oM) ?_;refine U7 ?_;refine .cl (fun H hs=> isB (isName_c M H (k.name j)) q0) ?_;refine U8 ?_;refine .rt hK func220 results220 [_] ?_;exact okB
   | true=>
    cases q1:k.again j with
    | true=>
     have eA:k.lineA j=5:=by unfold Bk.lineA;simp only[q0,q1];simp
     rw[firstA_at hno eA dE c3] at hK;refine U14 ?_;refine .al fun b4=> ?_;refine U9 ?_;refine .x (OpV.sliceTo (E:=en) (k:=j) rfl rfl rfl rfl rfl rfl oM oM) ?_;refine U7 ?_;refine .cl (fun H hs=> isB (isName_c M H (k.name j)) q0) ?_;refine U8 ?_;refine .cl (fun H hs=> isB (ContainsL_c M H (k.pre j) (some ⟨ab,ao,none⟩) lc (hA2.le hs.base) (by show j<=1000;omega) _ (fun i=> k.name i==k.name j) (fun i _ F fc H' hle=> FnT.of (first:= []) (captured:= [_]) ca224 rfl (same_c M H' (k.name j) b4 true _ (hle _ _ (hs.get (i:=0) rfl)) (k.name i) (k.num i) F (k.nf i) fc))) q1) ?_;refine U7 ?_;refine .rt hK func220 results220 [_] ?_;exact okB
    | false =>
     cases q2:isNum (k.num j) with
     | false=>
      have eA:k.lineA j=3:=by unfold Bk.lineA;simp only[q0,q1,q2];simp
      rw[firstA_at hno eA dE c3] at hK;refine U14 ?_;refine .al fun b4=> ?_;refine U9 ?_;refine .x (OpV.sliceTo (E:=en) (k:=j) rfl rfl rfl rfl rfl rfl oM oM) ?_;refine U7 ?_;refine .cl (fun H hs=> isB (isName_c M H (k.name j)) q0) ?_;refine U8 ?_;refine .cl (fun H hs=> isB (ContainsL_c M H (k.pre j) (some ⟨ab,ao,none⟩) lc (hA2.le hs.base) (by show j<=1000;omega) _ (fun i=> k.name i==k.name j) (fun i _ F fc H' hle=> FnT.of (first:= []) (captured:= [_]) ca224 rfl (same_c M H' (k.name j) b4 true _ (hle _ _ (hs.get (i:=0) rfl)) (k.name i) (k.num i) F (k.nf i) fc))) q1) ?_;refine U7 ?_;refine .cl (fun H hs=> isB (isNumber_c M H (k.num j) s1) q2) ?_;refine U8 ?_;refine .rt hK func220 results220 [_] ?_;exact okB
     | true=>
      cases q3:(k.pre j).clash (k.num j) with
      | true=>
       have eA:k.lineA j=10:=by unfold Bk.lineA;simp only[q0,q1,q2,q3];simp
       rw[firstA_at hno eA dE c3] at hK;refine U14 ?_;refine .al fun b4=> ?_;refine U9 ?_;refine .x (OpV.sliceTo (E:=en) (k:=j) rfl rfl rfl rfl rfl rfl oM oM) ?_;refine U7 ?_;refine .cl (fun H hs=> isB (isName_c M H (k.name j)) q0) ?_;refine U8 ?_;refine .cl (fun H hs=> isB (ContainsL_c M H (k.pre j) (some ⟨ab,ao,none⟩) lc (hA2.le hs.base) (by show j<=1000;omega) _ (fun i=> k.name i==k.name j) (fun i _ F fc H' hle=> FnT.of (first:= []) (captured:= [_]) ca224 rfl (same_c M H' (k.name j) b4 true _ (hle _ _ (hs.get (i:=0) rfl)) (k.name i) (k.num i) F (k.nf i) fc))) q1) ?_;refine U7 ?_;refine .cl (fun H hs=> isB (isNumber_c M H (k.num j) s1) q2) ?_;refine U9 ?_;refine .cl (fun H hs=> isB (clashes_c M H (k.pre j) (some ⟨ab,ao,none⟩) lc (hA2.le hs.base) (by show j<=1000;omega) (k.num j)) q3) ?_;refine U7 ?_;refine .rt hK func220 results220 [_] ?_;exact okB
      | false=>
       cases q4:decide (1<=((k.nf j:Nat):Int)/\((k.nf j:Nat):Int)<=4) with
       | false=>
        have eA:k.lineA j=2:=by unfold Bk.lineA;simp only[q0,q1,q2,q3,q4];simp
        rw[firstA_at hno eA dE c3] at hK;refine U14 ?_;refine .al fun b4=> ?_;refine U9 ?_;refine .x (OpV.sliceTo (E:=en) (k:=j) rfl rfl rfl rfl rfl rfl oM oM) ?_;refine U7 ?_;refine .cl (fun H hs=> isB (isName_c M H (k.name j)) q0) ?_;refine U8 ?_;refine .cl (fun H hs=> isB (ContainsL_c M H (k.pre j) (some ⟨ab,ao,none⟩) lc (hA2.le hs.base) (by show j<=1000;omega) _ (fun i=> k.name i==k.name j) (fun i _ F fc H' hle=> FnT.of (first:= []) (captured:= [_]) ca224 rfl (same_c M H' (k.name j) b4 true _ (hle _ _ (hs.get (i:=0) rfl)) (k.name i) (k.num i) F (k.nf i) fc))) q1) ?_;refine U7 ?_;refine .cl (fun H hs=> isB (isNumber_c M H (k.num j) s1) q2) ?_;refine U9 ?_;refine .cl (fun H hs=> isB (clashes_c M H (k.pre j) (some ⟨ab,ao,none⟩) lc (hA2.le hs.base) (by show j<=1000;omega) (k.num j)) q3) ?_;refine U8 ?_;refine .cl (fun H hs=> between_is M H ((k.nf j:Nat):Int) 1 4 false q4) ?_;refine U8 ?_;refine .rt hK func220 results220 [_] ?_;exact okB
       | true=>
        cases q5:k.freeBad j with
        | true=>
         have eA:k.lineA j=1:=by unfold Bk.lineA;simp only[q0,q1,q2,q3,q4,q5];simp
         rw[firstA_at hno eA dE c3] at hK;refine U14 ?_;refine .al fun b4=> ?_;refine U9 ?_;refine .x (OpV.sliceTo (E:=en) (k:=j) rfl rfl rfl rfl rfl rfl oM oM) ?_;refine U7 ?_;refine .cl (fun H hs=> isB (isName_c M H (k.name j)) q0) ?_;refine U8 ?_;refine .cl (fun H hs=> isB (ContainsL_c M H (k.pre j) (some ⟨ab,ao,none⟩) lc (hA2.le hs.base) (by show j<=1000;omega) _ (fun i=> k.name i==k.name j) (fun i _ F fc H' hle=> FnT.of (first:= []) (captured:= [_]) ca224 rfl (same_c M H' (k.name j) b4 true _ (hle _ _ (hs.get (i:=0) rfl)) (k.name i) (k.num i) F (k.nf i) fc))) q1) ?_;refine U7 ?_;refine .cl (fun H hs=> isB (isNumber_c M H (k.num j) s1) q2) ?_;refine U9 ?_;refine .cl (fun H hs=> isB (clashes_c M H (k.pre j) (some ⟨ab,ao,none⟩) lc (hA2.le hs.base) (by show j<=1000;omega) (k.num j)) q3) ?_;refine U8 ?_;refine .cl (fun H hs=> between_is M H ((k.nf j:Nat):Int) 1 4 true q4) ?_;refine U8 ?_;refine .cl (fun H hs=> isB (ContainsC_c M H F (k.nf j) fc (k.free j) (hF.le hs.base) s2) q5) ?_;refine U7 ?_;refine .rt hK func220 results220 [_] ?_;exact okB
        | false=>
         have eA:k.lineA j=0:=by unfold Bk.lineA;simp only[q0,q1,q2,q3,q4,q5];simp
         refine U14 ?_;refine .al fun b4=> ?_;refine U9 ?_;refine .x (OpV.sliceTo (E:=en) (k:=j) rfl rfl rfl rfl rfl rfl oM oM) ?_;refine U7 ?_;refine .cl (fun H hs=> isB (isName_c M H (k.name j)) q0) ?_;refine U8 ?_;refine .cl (fun H hs=> isB (ContainsL_c M H (k.pre j) (some ⟨ab,ao,none⟩) lc (hA2.le hs.base) (by show j<=1000;omega) _ (fun i=> k.name i==k.name j) (fun i _ F fc H' hle=> FnT.of (first:= []) (captured:= [_]) ca224 rfl (same_c M H' (k.name j) b4 true _ (hle _ _ (hs.get (i:=0) rfl)) (k.name i) (k.num i) F (k.nf i) fc))) q1) ?_;refine U7 ?_;refine .cl (fun H hs=> isB (isNumber_c M H (k.num j) s1) q2) ?_;refine U9 ?_;refine .cl (fun H hs=> isB (clashes_c M H (k.pre j) (some ⟨ab,ao,none⟩) lc (hA2.le hs.base) (by show j<=1000;omega) (k.num j)) q3) ?_;refine U8 ?_;refine .cl (fun H hs=> between_is M H ((k.nf j:Nat):Int) 1 4 true q4) ?_;refine U8 ?_;refine .cl (fun H hs=> isB (ContainsC_c M H F (k.nf j) fc (k.free j) (hF.le hs.base) s2) q5) ?_;refine U10 ?_;exact Tc.db (ih ⟨j+1,oM,by rw[firstA,if_pos hno];exact eA⟩ (by simp only;omega))
def chkF(i:Nat):Value:=.func (.func ([219,220,221][i]?.getD 0)) #[] #[]
def Glob(H:View):Prop:=(∃f gt gz,H 1=some (f,.cells ⟨[chkF 0,chkF 1,chkF 2]⟩ gt gz))/\True
def Bk.chk(k:Bk)(i:Nat):Int:= [k.pausesA,k.linesA,k.trainsA][i]?.getD 0
theorem glob_le {H H':View}(h:Glob H)(hl:H.le H'):Glob H':=⟨h.1.imp fun _ ⟨gt,gz,e⟩=> ⟨gt,gz,hl _ _ e⟩,trivial⟩
theorem Bk.alarm_eq(k:Bk):k.alarm=firstA k.chk 3:=by
 unfold Bk.alarm;simp only[firstA,Bk.chk];by_cases h1:k.pausesA=0 <;> by_cases h2:k.linesA=0 <;> simp[h1,h2]
structure BkAt(H:View)(k:Bk)(A:Option Addr)(lc:Nat)(B:Option Addr)(tc:Nat):Prop where
 rows:RowsAt H k A lc
 trains:TrainsAt H k B tc
theorem BkAt.le {H H':View}{k:Bk}{A:Option Addr}{lc:Nat}{B:Option Addr}{tc:Nat}(h:BkAt H k A lc B tc)(hl:H.le H'):BkAt H' k A lc B tc:=⟨h.rows.le hl,h.trains.le hl⟩
structure Bk.small(k:Bk):Prop where
 nl:k.nl<=1000
 nt:k.nt<=1000
 num:∀i,i<k.nl->(k.num i).length<=1000000/\k.nf i<=1000
theorem chk_c(k:Bk)(A:Option Addr)(lc:Nat)(B:Option Addr)(tc:Nat)(hk:BkAt H k A lc B tc)(hn:k.small)(i:Nat)(hi:i<3):FnT M (chkF i) [k.val A lc B tc] H fun v H''=> H.le H''/\v=.int .i64 (k.chk i):=by
 match i,hi with
 | 0,_=> exact FnT.h (pauses_c M H k A lc B tc)
 | 1,_=> exact FnT.h (lines_c M H k A lc B tc hk.rows hn.nl hn.num)
 | 2,_=> exact FnT.h (trains_c M H k A lc B tc hk.trains hn.nt)
theorem CheckBook_c(k:Bk)(A:Option Addr)(lc:Nat)(B:Option Addr)(tc:Nat)(hk:BkAt H k A lc B tc)(hn:k.small)(hG:Glob H):
  CallT M 106 #[k.val A lc B tc] H (fun v H'=> H.le H'/\v=.int .i64 k.alarm):=by
 rw[k.alarm_eq];obtain⟨⟨f,gt,gz,hG⟩,_⟩:=hG;refine .en func106 ntmps106 fun St c cs hK=> ?_;refine U2 ?_;refine .bo fun b1=> ?_;refine U9 ?_;refine Tc.db (Tc.loopInv (σ:= { j:Nat//j<=3/\firstA k.chk j=0 }) (fun j=> ([(1,.pointer (some ⟨b1,0,none⟩)),(6,.agg ⟨[chkF 0,chkF 1,chkF 2]⟩),(7,.int .i64 (j.1:Nat))],[(b1,true,.cells ⟨(k.val A lc B tc).cells.toList⟩ 36 (0,0))])) (fun j=> 3-j.1) ?_ ⟨0,Nat.zero_le _,rfl⟩);rintro⟨j,hj,hno⟩ ih;show Tc M St _ _ _ _ [(1,.pointer (some ⟨b1,0,none⟩)),(6,.agg ⟨[chkF 0,chkF 1,chkF 2]⟩),(7,.int .i64 (j:Nat))] [(b1,true,.cells ⟨(k.val A lc B tc).cells.toList⟩ 36 (0,0))] _ _;by_cases c1:j=3
 ·subst c1;rw[hno] at hK;refine U11 ?_;refine .rt hK func106 results106 [_] ?_;exact okB
 ·have c2:j<3:=by omega
  have f1:ldL false 1 [chkF 0,chkF 1,chkF 2] (((j:Nat):Int).toNat*1)=some (chkF j):=by
   rcases(by omega:j=0\/j=1\/j=2) with rfl|rfl|rfl <;> rfl
  by_cases c3:k.chk j=0
  ·have hc:=fun(H':View) (h':H.le H')=> chk_c M H' k A lc B tc (hk.le h') hn j c2;rw[c3] at hc;refine U11 ?_;refine .x (OpV.index (E:=en) rfl rfl rfl rfl rfl rfl oM oM (by assumption)) ?_;refine U7 ?_;refine .c rfl rfl rfl rfl (fun H hs=> hc H hs.base) ?_;refine U14 ?_;exact Tc.db (ih ⟨j+1,oM,by rw[firstA,if_pos hno];exact c3⟩ (by simp only;omega))
  ·rw[firstA_at hno rfl c3 c2] at hK;refine U11 ?_;refine .x (OpV.index (E:=en) rfl rfl rfl rfl rfl rfl oM oM (by assumption)) ?_;refine U7 ?_;refine .c rfl rfl rfl rfl (fun H hs=> chk_c M H k A lc B tc (hk.le hs.base) hn j c2) ?_;refine U13 ?_;refine .rt hK func106 results106 [_] ?_;exact okB
theorem open_yes(k:Bk)(A:Option Addr)(lc:Nat)(B:Option Addr)(tc:Nat)(hk:BkAt H k A lc B tc)(hn:k.small)(hG:Glob H)(ha:k.alarm=0):
  CallT M 59 #[k.val A lc B tc,.bool true] H (fun v H'=> H.le H'/\v=.tuple ⟨[k.val A lc B tc,.int .i64 0]⟩):=by
 have hc:=fun(H':View) (h':H.le H')=> CheckBook_c M H' k A lc B tc (hk.le h') hn (glob_le hG h');rw[ha] at hc;refine .en func59 ntmps59 fun St c cs hK=> ?_;refine U2 ?_;refine .bo fun b2=> ?_;refine .al fun b4=> ?_;refine U6 ?_;refine .cl (fun H hs=> hc H hs.base) ?_;refine U24 ?_;refine .rt hK func59 results59 [_,_] ?_;exact okB
end
set_option maxHeartbeats 4000000
def upN(a b:Nat):List Nat:=List.range' a (b+1-a)
theorem upN_nil {a b:Nat}(h:b<a):upN a b= []:=by unfold upN;rw[show b+1-a=0 by omega];rfl
theorem upN_cons {a b:Nat}(h:a<=b):upN a b=a::upN (a+1) b:=by
 unfold upN;rw[show b+1-a=(b+1-(a+1))+1 by omega];rfl
theorem mem_upN {a b x:Nat}:x∈upN a b<->a<=x/\x<=b:=by
 unfold upN;rw[List.mem_range'_1];omega
def canL(a b lo hi:Nat):List (Nat×Nat):=(upN a b).flatMap fun n=> (upN lo hi).map fun d=> (n,d)
def canFrom(n b lo hi d:Nat):List (Nat×Nat):=(upN d hi).map (fun d=> (n,d))++canL (n+1) b lo hi
theorem canL_nil {a b lo hi:Nat}(h:b<a):canL a b lo hi= []:=by unfold canL;rw[upN_nil h];rfl
theorem canL_cons {a b lo hi:Nat}(h:a<=b):canL a b lo hi=canFrom a b lo hi lo:=by unfold canL canFrom;rw[upN_cons h,List.flatMap_cons];rfl
theorem canFrom_cons {n b lo hi d:Nat}(h:d<=hi):canFrom n b lo hi d=(n,d)::canFrom n b lo hi (d+1):=by unfold canFrom;rw[upN_cons h];rfl
theorem canFrom_nil {n b lo hi d:Nat}(h:hi<d):canFrom n b lo hi d=canL (n+1) b lo hi:=by unfold canFrom;rw[upN_nil h];rfl
theorem mem_canL {a b lo hi:Nat}{x:Nat×Nat}:x∈canL a b lo hi<->(a<=x.1/\x.1<=b)/\(lo<=x.2/\x.2<=hi):=by
 unfold canL;simp only[List.mem_flatMap,List.mem_map,mem_upN];constructor
 ·rintro⟨n,h1,d,h2,rfl⟩;exact⟨h1,h2⟩
 ·rintro⟨h1,h2⟩;exact⟨x.1,h1,x.2,h2,rfl⟩
def canF(b5 b2:Nat):Value:=.func (.func 148) #[] #[.pointer (some ⟨b5,0,none⟩),.pointer (some ⟨b2,0,none⟩)]
structure CapC(v w:Value)(b5 b2:Nat)(H:View):Prop where
 a:∃f,H b5=some (f,.cells ⟨v.cells.toList⟩ 73 (0,0))
 b:∃f,H b2=some (f,.cells ⟨w.cells.toList⟩ 128 (0,0))
theorem CapC.le {v w:Value}{b5 b2:Nat}(H H':View)(h:H.le H')(c:CapC v w b5 b2 H):CapC v w b5 b2 H':=
 ⟨c.a.imp fun _ e=> h _ _ e,c.b.imp fun _ e=> h _ _ e⟩
def Bk.can(k:Bk)(i:Nat):List (Nat×Nat):=canL (k.pf i).toNat (k.pt i).toNat (k.kind (k.qf i)) (k.kind (k.qt i))
section
variable(M:Md prog)(H:View)
theorem can_c(k:Bk)(A:Option Addr)(lc:Nat)(B:Option Addr)(tc:Nat)(hB:TrainsAt H k B tc)(i:Nat)(hi:i<k.nt):
  CallT M 107 #[k.val A lc B tc,.int .i64 (i:Nat)] H (fun v H'=> H.le H'/\∃b5 b2,v=canF b5 b2/\CapC (trainV (k.pf i) (k.pt i) (k.qf i) (k.qt i)) (k.val A lc B tc) b5 b2 H'):=by
 obtain⟨_,h0|⟨tb,to,f,gs,gt,gz,rfl,hb,ht⟩⟩:=hB
 ·omega
 have f1:=ht i hi;refine .en func107 ntmps107 fun St c cs hK=> ?_;refine U2 ?_;refine .bo fun b2=> ?_;refine U10 ?_;refine .al fun b5=> ?_;refine U7 ?_;refine .rt hK func107 results107 [_] ?_;exact fun H' hs=> ⟨hs.base,b5,b2,rfl,⟨true,hs.get (i:=0) rfl⟩,⟨true,hs.get (i:=1) rfl⟩⟩
theorem can_it(k:Bk)(A:Option Addr)(lc:Nat)(B:Option Addr)(tc:Nat)(i:Nat)(a b lo hi:Nat)(ha:k.pf i=(a:Nat))(hb:k.pt i=(b:Nat))(hb1:b<=1000)(hlo:k.kind (k.qf i)=lo)(hhi:k.kind (k.qt i)=hi)(hhi2:hi<=2)(b5 b2:Nat)
  (hC:CapC (trainV (k.pf i) (k.pt i) (k.qf i) (k.qt i)) (k.val A lc B tc) b5 b2 H):
  IterT M (canF b5 b2) (canL a b lo hi) (fun x (_:Unit)=> [.int .i64 (x.1:Nat),.int .i64 (x.2:Nat)]) (fun _ _=> []) (fun _ _=> []) (CapC (trainV (k.pf i) (k.pt i) (k.qf i) (k.qt i)) (k.val A lc B tc) b5 b2) [] H:=fun l J D hcap h0 hy H₀ hs₀=> by
 have hk1:=fun(H':View)=> kind_c M H' k A lc B tc (k.qf i);have hk2:=fun(H':View)=> kind_c M H' k A lc B tc (k.qt i);rw[hlo] at hk1;rw[hhi] at hk2;rw[ha,hb] at hC hcap;refine FnT.of (first:= []) (captured:= [_,_]) ca148 rfl ?_;obtain⟨⟨fa,h5⟩,⟨fb,h2⟩⟩:=hC;refine CallT.enter (vs:= [.func (.yield l) #[] #[],.pointer (some ⟨b5,0,none⟩),.pointer (some ⟨b2,0,none⟩)]) func148 rfl ntmps148 (Nat.le_of_ble_eq_true rfl) (hs₀) fun St c cs hK=> ?_;refine U8 ?_;refine Tc.db (Tc.loopB (σ:= { s:Nat×View//a<=s.1/\J (canL s.1 b lo hi) s.2 })
  (fun s=> (s.1.2,[(0,.func (.yield l) #[] #[]),(1,.pointer (some ⟨b5,0,none⟩)),(2,.pointer (some ⟨b2,0,none⟩)),(4,.int .i64 (s.1.1:Nat))],[])) (fun s=> b+1-s.1.1) ?_ ⟨(a,H),Nat.le_refl _,h0⟩)
 rintro⟨⟨n,H₁⟩,g1,j1⟩ ih₁;simp only at g1 j1;show Tc M St _ _ H₁ _ [(0,.func (.yield l) #[] #[]),(1,.pointer (some ⟨b5,0,none⟩)),(2,.pointer (some ⟨b2,0,none⟩)),(4,.int .i64 (n:Nat))] [] _ _;obtain⟨⟨fa,h5⟩,⟨fb,h2⟩⟩:=hcap _ _ j1;by_cases c1:n<=b
 ·rw[canL_cons c1] at j1;refine U19 ?_;refine .cl (fun H hs=> hk1 H) ?_;refine U3 ?_;refine Tc.db (Tc.loopB (σ:= { s:Nat×View//lo<=s.1/\J (canFrom n b lo hi s.1) s.2 })
   (fun s=> (s.1.2,[(0,.func (.yield l) #[] #[]),(1,.pointer (some ⟨b5,0,none⟩)),(2,.pointer (some ⟨b2,0,none⟩)),(4,.int .i64 (n:Nat)),(5,.int .i64 (s.1.1:Nat))],[])) (fun s=> hi+1-s.1.1) ?_ ⟨(lo,H₁),Nat.le_refl _,j1⟩)
  rintro⟨⟨d,H₂⟩,g2,j2⟩ ih₂;simp only at g2 j2;show Tc M St _ _ H₂ _ [(0,.func (.yield l) #[] #[]),(1,.pointer (some ⟨b5,0,none⟩)),(2,.pointer (some ⟨b2,0,none⟩)),(4,.int .i64 (n:Nat)),(5,.int .i64 (d:Nat))] [] _ _;obtain⟨⟨fc,h6⟩,⟨fd,h7⟩⟩:=hcap _ _ j2;by_cases c2:d<=hi
  ·rw[canFrom_cons c2] at j2;have hmem:(n,d)∈canL a b lo hi:=mem_canL.2 ⟨⟨g1,c1⟩,g2,c2⟩;refine U8 ?_;refine .cl (fun H hs=> hk2 H) ?_;refine U11 ?_;refine To.callF rfl rfl rfl rfl rfl rfl dE (hy (n,d) (canFrom n b lo hi (d+1)) () H₂ H₂ hmem j2 (SymSt.nil H₂)) (fun v H₃ hv=> ?_);rcases hv with ⟨rfl,H4,h8,j3⟩|⟨rfl,hD⟩
   ·refine To.lower h8.base ?_;refine U10 ?_;exact Tc.db (ih₂ ⟨(d+1,H4),by simp only;omega,j3⟩ (by simp only;omega))
   ·refine U3 ?_;refine .rt hK func148 results148 [] ?_;exact fun H' hs=> ⟨H₃,hs.base,.inr hD⟩
  ·have c3:hi<d:=by omega
   rw[canFrom_nil c3] at j2;refine U8 ?_;refine .cl (fun H hs=> hk2 H) ?_;refine U10 ?_;exact Tc.db (ih₁ ⟨(n+1,H₂),by simp only;omega,j2⟩ (by simp only;omega))
 ·have c2:b<n:=by omega
  rw[canL_nil c2] at j1;refine U11 ?_;refine .ov hK func148 results148 [] ?_;exact fun H' hs=> ⟨H₁,hs.base,.inl j1⟩
end
end Go.Proofs.YtcagolloalgfiaaGreatDoor
namespace Go.RL
open Go.Conc
structure MapOk(es:Array MapEntry)(cl:Nat)(F:Value->Value->Prop):Prop where
 keys:(es.toList.map (·.key)).Nodup
 borns:(es.toList.map (·.born)).Nodup
 lt:∀e∈es.toList,e.born<cl
 mem:∀k v,F k v<->∃e∈es.toList,e.key=k/\e.val=v
theorem MapOk.nil:MapOk #[] 0 fun _ _=> False:=⟨by simp,by simp,by simp,by simp⟩
theorem MapOk.congr {es:Array MapEntry}{cl:Nat}{F F':Value->Value->Prop}(h:MapOk es cl F)(k:∀a b,F' a b<->F a b):MapOk es cl F':=⟨h.keys,h.borns,h.lt,fun a b=> (k a b).trans (h.mem a b)⟩
theorem MapOk.find {es:Array MapEntry}{cl:Nat}{F:Value->Value->Prop}(h:MapOk es cl F){k:Value}{r:Option (Nat×Value)}(hr:FindOk es.toList k r):match r with
  | some (_,v)=> F k v
  | none=> ∀v,¬F k v:=by
 cases r with
 | none=>
  intro v hv;obtain⟨e,he,h1,_⟩:=(h.mem k v).1 hv;exact hr e he h1
 | some p=>
  obtain⟨i,v⟩:=p;obtain⟨e,h1,h2,h3⟩:=hr;exact(h.mem k v).2 ⟨e,List.mem_of_getElem? h1,h2,h3⟩
theorem MapOk.put {es:Array MapEntry}{cl:Nat}{F:Value->Value->Prop}(h:MapOk es cl F){k:Value}(v:Value){r:Option (Nat×Value)}(hr:FindOk es.toList k r):
  ∃es' cl',mapPut es cl k v r=.map es' cl'/\MapOk es' cl' fun k' v'=> (k'=k/\v'=v)\/(k'≠k/\F k' v'):=by
 cases r with
 | none=>
  refine⟨_,_,rfl,?_,?_,?_,?_⟩
  ·simp only[Array.toList_push,List.map_append,List.map_cons,List.map_nil];rw[List.nodup_append];refine⟨h.keys,by simp,fun a ha b hb=> ?_⟩;simp only[List.mem_singleton] at hb;subst hb;obtain⟨e,he,rfl⟩:=List.mem_map.1 ha;exact hr e he
  ·simp only[Array.toList_push,List.map_append,List.map_cons,List.map_nil];rw[List.nodup_append];refine⟨h.borns,by simp,fun a ha b hb=> ?_⟩;simp only[List.mem_singleton] at hb;subst hb;obtain⟨e,he,rfl⟩:=List.mem_map.1 ha;have:=h.lt e he;omega
  ·intro e he;simp only[Array.toList_push,List.mem_append,List.mem_singleton] at he;rcases he with he|rfl
   ·have:=h.lt e he;omega
   ·simp
  ·intro k' v';simp only[Array.toList_push,List.mem_append,List.mem_singleton];constructor
   ·rintro(⟨rfl,rfl⟩|⟨_,hf⟩)
    ·exact⟨_,.inr rfl,rfl,rfl⟩
    ·obtain⟨e,he,h1,h2⟩:=(h.mem k' v').1 hf;exact⟨e,.inl he,h1,h2⟩
   ·rintro⟨e,he|rfl,h1,h2⟩
    ·exact .inr ⟨fun e'=> hr e he (h1.trans e'),(h.mem k' v').2 ⟨e,he,h1,h2⟩⟩
    ·exact .inl ⟨h1.symm,h2.symm⟩
 | some p=>
  obtain⟨i,u⟩:=p;obtain⟨e,h1,h2,h3⟩:=hr;have hi:=(List.getElem?_eq_some_iff.1 h1).1;have he:es.toList[i]=e:=(List.getElem?_eq_some_iff.1 h1).2;have hes:es.toList=es.toList.take i++e::es.toList.drop (i+1):=by
   rw[<-he,<-List.drop_eq_getElem_cons hi,List.take_append_drop]
  have hml:(es.modify i fun e=> { e with key:=k,val:=v }).toList=es.toList.take i++{ e with key:=k,val:=v }::es.toList.drop (i+1):=by
   rw[Array.toList_modify,List.modify_eq_take_cons_drop hi,he]
  have hk:=h.keys;rw[hes,List.map_append,List.map_cons] at hk;refine⟨_,_,rfl,?_,?_,?_,?_⟩
  ·rw[hml,List.map_append,List.map_cons];rw[h2] at hk;exact hk
  ·have hb:=h.borns;rw[hes,List.map_append,List.map_cons] at hb;rw[hml,List.map_append,List.map_cons];exact hb
  ·intro x hx;rw[hml] at hx;rcases List.mem_append.1 hx with hx|hx
   ·exact h.lt x (by rw[hes];exact List.mem_append_left _ hx)
   ·rcases List.mem_cons.1 hx with rfl|hx
    ·exact h.lt e (by rw[hes];simp)
    ·exact h.lt x (by rw[hes];exact List.mem_append_right _ (List.mem_cons_of_mem _ hx))
  ·intro k' v';rw[hml];rw[List.nodup_append,List.nodup_cons] at hk;obtain⟨_,⟨hk1,_⟩,hk2⟩:=hk;constructor
   ·rintro(⟨rfl,rfl⟩|⟨hne,hf⟩)
    ·exact⟨_,List.mem_append_right _ (List.mem_cons_self ..),rfl,rfl⟩
    ·obtain⟨x,hx,g1,g2⟩:=(h.mem k' v').1 hf;rw[hes] at hx;rcases List.mem_append.1 hx with hx|hx
     ·exact⟨x,List.mem_append_left _ hx,g1,g2⟩
     ·rcases List.mem_cons.1 hx with rfl|hx
      ·exact absurd (g1.symm.trans h2) hne
      ·exact⟨x,List.mem_append_right _ (List.mem_cons_of_mem _ hx),g1,g2⟩
   ·rintro⟨x,hx,g1,g2⟩;rcases List.mem_append.1 hx with hx|hx
    ·refine .inr ⟨fun e'=> hk2 _ (List.mem_map_of_mem hx) _ (List.mem_cons_self ..) (g1.trans (e'.trans h2.symm)),(h.mem k' v').2 ⟨x,by rw[hes];exact List.mem_append_left _ hx,g1,g2⟩⟩
    ·rcases List.mem_cons.1 hx with rfl|hx
     ·exact .inl ⟨g1.symm,g2.symm⟩
     ·refine .inr ⟨fun e'=> hk1 ?_,(h.mem k' v').2 ⟨x,by rw[hes];exact List.mem_append_right _ (List.mem_cons_of_mem _ hx),g1,g2⟩⟩;have:=List.mem_map_of_mem (f:=(·.key)) hx;rw[g1,e',<-h2] at this;exact this
def unseen(es:Array MapEntry)(seen:Array Nat):List MapEntry:=es.toList.filter fun e=> !seen.contains e.born
theorem unseen_start(es:Array MapEntry):unseen es #[]=es.toList:=by simp[unseen]
theorem unseen_done {es:Array MapEntry}{seen:Array Nat}(h:∀e∈es.toList,seen.contains e.born=true):unseen es seen= []:=by
 unfold unseen;rw[List.filter_eq_nil_iff];intro e he;rw[h e he];simp
theorem unseen_next {es:Array MapEntry}{seen:Array Nat}{e:MapEntry}(hn:(es.toList.map (·.born)).Nodup)(he:e∈es.toList)(hs:seen.contains e.born=false):(unseen es seen).Perm (e::unseen es (seen.push e.born)):=by
 have hme:e∈unseen es seen:=by
  unfold unseen;rw[List.mem_filter];exact⟨he,by rw[hs];rfl⟩
 obtain⟨A,B,hAB⟩:=List.append_of_mem he;have hb:=hn;rw[hAB,List.map_append,List.map_cons,List.nodup_append,List.nodup_cons] at hb;obtain⟨_,⟨h1,_⟩,h2⟩:=hb;have other:∀x:MapEntry,x.born≠e.born->(!(seen.push e.born).contains x.born)=!seen.contains x.born:=fun x hx=> by
  rw[Array.contains_push];have:(x.born==e.born)=false:=by simpa using hx
  simp[this]
 have hA:A.filter (fun x=> !(seen.push e.born).contains x.born)=A.filter fun x=> !seen.contains x.born:=List.filter_congr fun x hx=> other x fun e'=> h2 _ (List.mem_map_of_mem hx) _ (List.mem_cons_self ..) e';have hB:B.filter (fun x=> !(seen.push e.born).contains x.born)=B.filter fun x=> !seen.contains x.born:=List.filter_congr fun x hx=> other x fun e'=> h1 (by
  have:=List.mem_map_of_mem (f:=(·.born)) hx;rw[e'] at this;exact this)
 unfold unseen;rw[hAB,List.filter_append,List.filter_append,List.filter_cons_of_pos (by rw[hs];rfl),List.filter_cons_of_neg (by simp),hA,hB];exact List.perm_middle
end Go.RL
namespace Go.Proofs.YtcagolloalgfiaaGreatDoor
open Go.RL Go.Proofs.Tryz
set_option maxRecDepth 10000
theorem ear_flat(s:List UInt8)(m:Int)(d:Bool):flat en 2 135 [strV s,.int .i64 m,.bool d]:=by
 refine⟨rfl,?_⟩;intro f hf;simp only[List.mem_cons,List.not_mem_nil,or_false] at hf;rcases hf with rfl|rfl|rfl
 ·exact⟨⟨_,rfl⟩,_,rfl,rfl,Nat.le_of_ble_eq_true rfl⟩
 ·exact⟨⟨_,rfl⟩,_,rfl,rfl,Nat.le_of_ble_eq_true rfl⟩
 ·exact⟨⟨_,rfl⟩,_,rfl,rfl,Nat.le_of_ble_eq_true rfl⟩
theorem ear_key(e:Ear):KeyFl en 2 135 e.val:=⟨_,[strV e.heard,.int .i64 (e.pend:Nat),.bool e.deaf],rfl,rfl,ear_flat _ _ _⟩
theorem ear_inj {e e':Ear}(h:e.val=e'.val):e=e':=by
 obtain⟨s,m,d⟩:=e;obtain⟨s',m',d'⟩:=e';unfold Ear.val earV at h;simp only[Value.agg.injEq,Array.mk.injEq,List.cons.injEq,Value.string.injEq,ByteArray.mk.injEq,Value.int.injEq,Value.bool.injEq,and_true,true_and] at h;obtain⟨h1,h2,h3⟩:=h;subst h1;subst h3;simp only[Ear.mk.injEq,and_true,true_and];omega
def Bk.earsS(k:Bk):Nat->Ear->Prop
 | 0,e=> e=⟨[],0,false⟩
 | i+1,e=> ∃e0,k.earsS i e0/\∃x∈k.can i,e=e0.hear x.1 x.2
def earF(S:Ear->Prop)(kv v:Value):Prop:=∃e,S e/\kv=e.val/\v=.bool true
def Bk.trainsOk(k:Bk):Prop:=∀i,i<k.nt->trainOk (k.pf i) (k.pt i) (k.qf i) (k.qt i)=true
theorem Bk.train_in {k:Bk}(h:k.trainsOk){i:Nat}(hi:i<k.nt):(1<=k.pf i/\k.pf i<=k.pt i/\k.pt i<=12)/\k.pt i-k.pf i<4/\(0<=k.qf i/\k.qf i<=k.qt i/\k.qt i<=99):=by
 have:=h i hi;unfold trainOk at this;simp only[Bool.and_eq_true,decide_eq_true_eq] at this;exact⟨this.1.1,this.1.2,this.2⟩
theorem Bk.kind_le(k:Bk)(p:Int):k.kind p<=2:=by
 unfold Bk.kind;split
 ·omega
 ·split <;> omega
theorem Bk.can_in {k:Bk}(h:k.trainsOk){i:Nat}(hi:i<k.nt){x:Nat×Nat}(hx:x∈k.can i):x.1<=12/\x.2<=2:=by
 have h1:=k.train_in h hi;have h2:=mem_canL.1 hx;have h3:=k.kind_le (k.qt i);omega
theorem Ear.hear_bd {e:Ear}{p kd a b:Nat}(h1:e.heard.length<=a)(h2:e.pend<=b)(h3:p<=12):(e.hear p kd).heard.length<=a+1/\(e.hear p kd).pend<=b+12:=by
 unfold Ear.hear;split
 ·omega
 ·split
  ·simp only;omega
  ·split
   ·simp only;omega
   ·simp only[List.length_append,List.length_cons,List.length_nil];omega
theorem Bk.ears_bd {k:Bk}(h:k.trainsOk):∀ {i:Nat} {e:Ear},i<=k.nt->k.earsS i e->e.heard.length<=i/\e.pend<=12*i
 | 0,e,_,he=> by
  have:e=⟨[],0,false⟩:=he;subst this;exact⟨Nat.le_refl _,Nat.le_refl _⟩
 | i+1,e,hi,⟨e0,h0,x,hx,he⟩=> by
  have h1:=Bk.ears_bd h (i:=i) oM h0;have h2:=Bk.can_in h (i:=i) oM hx;subst he;have:=Ear.hear_bd (kd:=x.2) h1.1 h1.2 h2.1;omega
theorem earF_one(e:Ear){S:Ear->Prop}(hS:∀x,S x<->x=e)(kv v:Value):earF S kv v<->(kv=e.val/\v=.bool true)\/(kv≠e.val/\False):=by
 constructor
 ·rintro⟨x,h1,h2,h3⟩;rw[(hS x).1 h1] at h2;exact .inl ⟨h2,h3⟩
 ·rintro(⟨h1,h2⟩|⟨_,h⟩)
  ·exact⟨e,(hS e).2 rfl,h1,h2⟩
  ·exact h.elim
theorem earF_put(e:Ear)(S:Ear->Prop)(kv v:Value):earF (fun x=> x=e\/S x) kv v<->(kv=e.val/\v=.bool true)\/(kv≠e.val/\earF S kv v):=by
 constructor
 ·rintro⟨x,h1,h2,h3⟩;by_cases hx:x=e
  ·subst hx;exact .inl ⟨h2,h3⟩
  ·exact .inr ⟨fun h=> hx (ear_inj (h2.symm.trans h)),x,h1.resolve_left hx,h2,h3⟩
 ·rintro(⟨h1,h2⟩|⟨_,x,h1,h2,h3⟩)
  ·exact⟨e,.inl rfl,h1,h2⟩
  ·exact⟨x,.inr h1,h2,h3⟩
theorem earF_keys {es:Array MapEntry}{cl:Nat}{S:Ear->Prop}(h:MapOk es cl (earF S)):∀e∈es.toList,∃x,S x/\e.key=x.val/\e.val=.bool true:=fun e he=>
 (h.mem e.key e.val).2 ⟨e,he,rfl,rfl⟩
theorem earF_flat {es:Array MapEntry}{cl:Nat}{S:Ear->Prop}(h:MapOk es cl (earF S)):∀e∈es.toList,KeyFl en 2 135 e.key:=fun e he=> by
 obtain⟨x,_,h2,_⟩:=earF_keys h e he;rw[h2];exact ear_key x
theorem earF_find {es:Array MapEntry}{cl:Nat}{S:Ear->Prop}(h:MapOk es cl (earF S)){e:MapEntry}(he:e∈es.toList):es.find? (fun x=> x.born==e.born)=some e:=by
 rw[<-Array.find?_toList];cases hf:es.toList.find? (fun x=> x.born==e.born) with
 | none=> have:=List.find?_eq_none.1 hf e he;simp at this
 | some e'=>
  have h3:=List.mem_of_find?_eq_some hf;have h4:=List.find?_some hf;simp only[beq_iff_eq] at h4;obtain⟨i,hi,rfl⟩:=List.mem_iff_getElem.1 h3;obtain⟨j,hj,rfl⟩:=List.mem_iff_getElem.1 he;have hb:=h.borns;have hi':i<(es.toList.map (·.born)).length:=by rw[List.length_map];exact hi
  have hj':j<(es.toList.map (·.born)).length:=by rw[List.length_map];exact hj
  have:(es.toList.map (·.born))[i]=(es.toList.map (·.born))[j]:=by rw[List.getElem_map,List.getElem_map];exact h4
  have:=(List.getElem_inj hb).1 this;subst this;rfl
end Go.Proofs.YtcagolloalgfiaaGreatDoor
namespace Go.RL
open Go.Conc
def Mk(rs:List Nat):Bl:=rs.map fun r=> (r,true,.deferred (some []))
def marks(rs:List Nat):List Deferred:=rs.map markOf
section
variable {P:Program}{E:Env P}{M:Md P}{St:View->Goroutine->Prop}{n:Nat}{b:FB}{H₀:View}{cs:List Frame}{R:Rg}{L L₁:Bl}{ds:List Deferred}{k:List Item}
theorem Tc.permL(p:L₁.Perm L)(h:Tc M St n b H₀ cs R L₁ ds k):Tc M St n b H₀ cs R L ds k:=fun H tmps hs hr=> h H tmps (hs.perm p) hr
theorem Tc.marked {r:Nat}{rs:List Nat}(h:Tc M St n b H₀ cs R (L++Mk (r::rs)) (marks (r::rs)) k):Tc M St n b H₀ cs R ((r,true,.deferred (some []))::(L++Mk rs)) (markOf r::marks rs) k:=
 Tc.permL (L₁:=L++Mk (r::rs)) (List.perm_middle (l₁:=L) (l₂:=Mk rs)) h
theorem Tc.loopBD {σ:Type}(I:σ->View×Rg×Bl×List Deferred)(μ:σ->Nat){body:Code}
  (step:∀s,(∀s',μ s'<μ s->Tc M St n b (I s').1 cs (I s').2.1 (I s').2.2.1 (I s').2.2.2 (.inLoop body::k))->Tc M St n b (I s).1 cs (I s).2.1 (I s).2.2.1 (I s).2.2.2 (.code body:: .inLoop body::k)) (s₀:σ):
  Tc M St n b (I s₀).1 cs (I s₀).2.1 (I s₀).2.2.1 (I s₀).2.2.2 (.code (.loop body)::k):=by
 have key:∀(m:Nat) (s:σ),μ s<=m->Tc M St n b (I s).1 cs (I s).2.1 (I s).2.2.1 (I s).2.2.2 (.code body:: .inLoop body::k):=by
  intro m;induction m with
  | zero=> exact fun s hs=> step s fun s' hlt=> by omega
  | succ m ih=> exact fun s hs=> step s fun s' hlt=> .inLoop (ih s' oM)
 exact .loop (key _ s₀ (Nat.le_refl _))
theorem marks_back {fn:Func}{c:Frame}{Q:Value->View->Prop}{f:FuncId}{rv:List ResultVar}{vs:List Value}{todo:List Item}{tmps:Array Value}(hK:∀v H',Q v H'->T M St H' (G (c.finish v) cs))(hf:P.funcs[f]? =some fn)(hrs:fn.results=rv.toArray)
  (ho:ResOk E R L rv vs) (hr:RegOk n R tmps) (h:∀H',SymSt H₀ L H'->Q (packV vs) H'):∀(rs:List Nat) (H:View),SymSt H₀ (L++Mk rs) H->T M St H (G ((⟨f,.normal,none⟩:FB).back tmps (marks rs) todo) (c::cs))
 | [],H,hs=> by
  have hs':SymSt H₀ L H:=by
   have:=hs;unfold Mk at this
   rwa [List.map_nil,List.append_nil] at this
  exact .leave hf rfl (vwp_mono _ hK (vwp_results hs' hr hrs ho (h _ hs')))
 | r ::rs,H,hs=> by
  have hi:(L++Mk (r::rs))[L.length]? =some (r,true,.deferred (some [])):=by
   rw[List.getElem?_append_right (Nat.le_refl _),Nat.sub_self];rfl
  have hd:=hs.get hi;refine .collect ?_;refine⟨true,_,hd,by simp,rfl,?_⟩;refine⟨⟨_,hd,by simp⟩,rfl,?_⟩;have hs':=hs.set hi (true,.deferred none);refine marks_back hK hf hrs ho hr h rs _ (hs'.less ?_);rw[List.set_append_right _ _ (Nat.le_refl _),Nat.sub_self];exact List.Sublist.append (List.Sublist.refl _) (List.sublist_cons_self _ _)
theorem Tc.retDs {rs:List Nat}{fn:Func}{c:Frame}{Q:Value->View->Prop}{f:FuncId}{rv:List ResultVar}{vs:List Value}(hK:∀v H',Q v H'->T M St H' (G (c.finish v) cs))(hf:P.funcs[f]? =some fn)(hrs:fn.results=rv.toArray)
  (ho:ResOk E R L rv vs) (h:∀H',SymSt H₀ L H'->Q (packV vs) H'):Tc M St n ⟨f,.normal,none⟩ H₀ (c::cs) R (L++Mk rs) (marks rs) (.code .ret::k):=
 fun H _ hs hr=> .retCode rfl (marks_back hK hf hrs ho hr h rs H hs)
end
section
variable {P:Program}{M:Md P}{St:View->Goroutine->Prop}{n:Nat}{b:FB}{H₀:View}{cs:List Frame}{R:Rg}{L:Bl}{ds:List Deferred}{k:List Item}{ops:Array Oper}
theorem Tc.drT {id:Nat}{fuel:Nat}(B C E:List Nat)(m:Nat)(hm:P.follows .mixedOrders=true)(hf:ops.size=fuel)(h:Ta M St n b H₀ cs (S3 H₀ B C (eraseL (L.take m) E) L) .any ops fuel (Array.replicate fuel false) R L ds k):
  Tc M St n b H₀ cs R L ds (.code (.region id ops true)::k):=fun H tmps hs hr=> by
 subst hf;refine .region_draw fun t=> ?_;simp only[Region.schedule,hm,Bool.true_or,if_true];have hS:=S3.mk (H₀:=H₀) (B:=B) (C:=C) (listed:=Array.replicate ops.size false) ((eraseL_sub E (L.take m)).trans (List.take_sublist m L)) (.inr (List.Sublist.refl L)) H hs;exact(h H tmps hs hr hS).sound _ t _ _ _ hS
end
end Go.RL
section

end
namespace Go.Proofs.YtcagolloalgfiaaGreatDoor
open Go.RL Go.Proofs.Tryz
set_option maxRecDepth 10000
set_option maxHeartbeats 16000000
section
variable(M:Md prog)(H:View)
theorem ears_c (k:Bk)(A:Option Addr)(lc:Nat)(B:Option Addr)(tc:Nat)(hB:TrainsAt H k B tc)(ht:k.trainsOk)(h6:k.nt<=6)(n:Nat)(hn:n<=k.nt):
  CallT M 60 #[k.val A lc B tc,.int .i64 (n:Nat)] H (fun v H'=> H.le H'/\∃m es cl,v=.map (some m)/\(∃f,H' m=some (f,.map es cl))/\MapOk es cl (earF (k.earsS n))):=by
 refine .en func60 ntmps60 fun St c cs hK=> ?_;refine U2 ?_;refine .bo fun b2=> ?_;refine U4 ?_;refine .e (Or.makeMap rfl rfl dE (fun m0=> ?_));refine U ?_;refine .e (Or.insert (E:=en) 0 2 rfl rfl rfl rfl rfl rfl rfl dE (ear_key ⟨[],0,false⟩) (by simp) rfl (fun r hr=> ?_));obtain⟨es1,cl1,e1,hm1⟩:=MapOk.nil.put (.bool true) hr;rw[e1];refine U3 ?_;have hm1':MapOk es1 cl1 (earF (k.earsS 0)):=hm1.congr (earF_one ⟨[],0,false⟩ (fun x=> Iff.rfl));refine Tc.permL (L₁:= [(b2,true,.cells ⟨(k.val A lc B tc).cells.toList⟩ 128 (0,0)),(m0,true,.map es1 cl1)]) (List.Perm.swap ..) ?_;refine Tc.lift (L₂:= [(b2,true,.cells ⟨(k.val A lc B tc).cells.toList⟩ 128 (0,0))]) (L₁:= [(m0,true,.map es1 cl1)]) rfl (fun Hx hx=> ?_);have hle0:=hx.base;have hmap0:Hx m0=some (true,.map es1 cl1):=hx.get (i:=0) rfl;clear hx;refine U7 ?_;refine Tc.db (Tc.loopBD (σ:= { s:View×Nat×Nat×Array MapEntry×Nat×List Nat//H.le s.1/\s.2.1<=n/\(∃f,s.1 s.2.2.1=some (f,.map s.2.2.2.1 s.2.2.2.2.1))/\MapOk s.2.2.2.1 s.2.2.2.2.1 (earF (k.earsS s.2.1)) })
  (fun s=> (s.1.1,[(2,.pointer (some ⟨b2,0,none⟩)),(5,.map (some s.1.2.2.1)),(14,.int .i64 (n:Nat)),(15,.int .i64 (s.1.2.1:Nat))],[(b2,true,.cells ⟨(k.val A lc B tc).cells.toList⟩ 128 (0,0))]++Mk s.1.2.2.2.2.2,marks s.1.2.2.2.2.2)) (fun s=> n-s.1.2.1) ?_ ⟨(Hx,0,m0,es1,cl1,[]),hle0,Nat.zero_le _,⟨true,hmap0⟩,hm1'⟩)
 rintro⟨⟨H₁,i,m,es,cl,rs⟩,g1,g2,⟨fm,g3⟩,g4⟩ ih₁;simp only at g1 g2 g3 g4;show Tc M St _ _ H₁ _ [(2,.pointer (some ⟨b2,0,none⟩)),(5,.map (some m)),(14,.int .i64 (n:Nat)),(15,.int .i64 (i:Nat))] ([(b2,true,.cells ⟨(k.val A lc B tc).cells.toList⟩ 128 (0,0))]++Mk rs) (marks rs) _;by_cases c1:i=n
 ·subst c1;refine U12 ?_;refine Tc.retDs (E:=en) (L:= [(b2,true,.cells ⟨(k.val A lc B tc).cells.toList⟩ 128 (0,0))]) (rs:=rs) hK func60 results60 (vs:= [_]) ⟨rfl,trivial⟩ ?_;exact fun H' hs=> ⟨View.le_trans g1 hs.base,m,es,cl,rfl,⟨fm,hs.base _ _ g3⟩,g4⟩
 ·have c2 : i < k.nt:=by omega
  obtain⟨t1,t2,t3⟩:=k.train_in ht c2;refine U16 ?_;refine .e (Or.makeMap rfl rfl dE (fun mo=> ?_));refine .al fun b7=> ?_;refine U6 ?_;refine .e (Or.range (E:=en) (es:=es) (cl:=cl) rfl rfl (fun H hs=> ⟨fm,hs.base _ _ g3⟩) rfl rfl rfl dE (fun it=> ?_));refine U2 ?_;refine Tc.db (Tc.loopBD (σ:= { s:View×Array Nat×Array MapEntry×Nat×List Nat//H₁.le s.1/\∃S:Ear->Prop,MapOk s.2.2.1 s.2.2.2.1 (earF S)/\∀e,k.earsS (i+1) e<->(S e\/∃me∈unseen es s.2.1,∃e0:Ear,me.key=e0.val/\∃x∈k.can i,e=e0.hear x.1 x.2) })
   (fun s=> (s.1.1,[(2,.pointer (some ⟨b2,0,none⟩)),(6,.int .i64 (i:Nat)),(7,.pointer (some ⟨b7,0,none⟩)),(14,.int .i64 (n:Nat)),(15,.int .i64 (i:Nat)),(20,.pointer (some ⟨it,0,none⟩))],[(it,true,.mapIter (some m) cl s.1.2.1 cl),(b7,true,.cells ⟨[.map (some mo)]⟩ 132 (0,0)),(mo,true,.map s.1.2.2.1 s.1.2.2.2.1),(b2,true,.cells ⟨(k.val A lc B tc).cells.toList⟩ 128 (0,0))]++Mk s.1.2.2.2.2,marks s.1.2.2.2.2)) (fun s=> (unseen es s.1.2.1).length) ?_ ⟨(H₁,#[],#[],0,rs),View.le_refl _,fun _=> False,MapOk.nil.congr (by rintro a b;simp[earF]),fun e=> by
    rw[unseen_start];constructor
    ·rintro⟨e0,h0,x,hx,rfl⟩;obtain⟨me,h1,h2,_⟩:=(g4.mem e0.val (.bool true)).1 ⟨e0,h0,rfl,rfl⟩;exact .inr ⟨me,h1,e0,h2,x,hx,rfl⟩
    ·rintro(h|⟨me,h1,e0,h2,x,hx,rfl⟩)
     ·exact h.elim
     ·obtain⟨y,h3,h4,_⟩:=earF_keys g4 me h1;rw[ear_inj (h2.symm.trans h4)];exact⟨y,h3,x,hx,rfl⟩⟩)
  rintro⟨⟨H₂,seen,es2,cl2,rs2⟩,p1,S,p2,p3⟩ ih₂;simp only at p1 p2 p3;show Tc M St _ _ H₂ _ [(2,.pointer (some ⟨b2,0,none⟩)),(6,.int .i64 (i:Nat)),(7,.pointer (some ⟨b7,0,none⟩)),(14,.int .i64 (n:Nat)),(15,.int .i64 (i:Nat)),(20,.pointer (some ⟨it,0,none⟩))] ([(it,true,.mapIter (some m) cl seen cl),(b7,true,.cells ⟨[.map (some mo)]⟩ 132 (0,0)),(mo,true,.map es2 cl2),(b2,true,.cells ⟨(k.val A lc B tc).cells.toList⟩ 128 (0,0))]++Mk rs2) (marks rs2) _;have g3':=p1 _ _ g3;refine U2 ?_;refine .e (Or.next (es:=es) 0 rfl rfl rfl (fun H hs=> ⟨fm,hs.base _ _ g3'⟩) g4.lt rfl dE (fun me he hse=> ?_) (fun hall=> ?_))
  ·have hp :=unseen_next g4.borns he hse;obtain⟨e0,u1,u2,_⟩:=earF_keys g4 me he;have hfind:=earF_find g4 he;have hbd:=k.ears_bd ht oM u1;refine U8 ?_;refine .e (Or.entry (es:=es) (e:=me) (st:=me.born) rfl rfl (fun H hs=> ⟨true,hs.get (i:=0) rfl⟩) (fun H hs=> ⟨fm,hs.base _ _ g3'⟩) (by simp) hfind rfl dE ?_);rw[u2];refine U ?_;refine .al fun b8=> ?_;refine U6 ?_;refine To.callF rfl rfl rfl rfl rfl rfl dE (FnT.h (can_c M H₂ k A lc B tc (hB.le (View.le_trans g1 p1)) i c2)) (fun v H₃ hv=> ?_);obtain⟨hle3,b5,b2',rfl,hcap⟩:=hv;refine U ?_;have hit:=fun(H':View) (hc:CapC (trainV (k.pf i) (k.pt i) (k.qf i) (k.qt i)) (k.val A lc B tc) b5 b2' H')=> can_it M H' k A lc B tc i (k.pf i).toNat (k.pt i).toNat _ _ oM oM oM rfl rfl (k.kind_le _) b5 b2' hc;refine U ?_;refine Tc.rangeL (A:= []) (ts:= [28,29]) (xs:=k.can i) (fun rest H₄ L₄=> ∃es3 cl3,∃S3:Ear->Prop,L₄= [(b8,true,.cells ⟨e0.val.cells.toList⟩ 135 (0,0)),(it,true,.mapIter (some m) cl (seen.push me.born) cl),(b7,true,.cells ⟨[.map (some mo)]⟩ 132 (0,0)),(mo,true,.map es3 cl3),(b2,true,.cells ⟨(k.val A lc B tc).cells.toList⟩ 128 (0,0))]++Mk rs2
     /\MapOk es3 cl3 (earF S3)/\(∀e,(S e\/∃x∈k.can i,e=e0.hear x.1 x.2)<->(S3 e\/∃x∈rest,e=e0.hear x.1 x.2))/\CapC (trainV (k.pf i) (k.pt i) (k.qf i) (k.qt i)) (k.val A lc B tc) b5 b2' H₄/\H₃.le H₄) (fun _ _ _=> False) rfl rfl rfl rfl hit (fun _ _=> CapC.le _ _) (fun _ _ _ ⟨_,_,_,_,_,_,h,_⟩=> h) rfl (fun _ _=> rfl)
     ⟨es2,cl2,S,rfl,p2,fun _=> Iff.rfl,hcap,View.le_refl _⟩ ?_ ?_ (fun _ _ _ _ h=> h.elim)
   ·rintro r x rest _ l tmps asg bdy H₄ _ hx ⟨es3,cl3,S3,rfl,q2,q3,q4,q5⟩ Q St1 cc1 cs1 hK1 q q';have hxin:=k.can_in ht c2 hx;refine U7 ?_;refine Tc.beginRound (i:=0) rfl rfl rfl ?_;refine U ?_;refine Tc.dr [5] [5] mixed rfl ?_;refine V4 0 ?_;refine .z 4 rfl (OpV.tk fun H hs=> hear_c M H e0 x.1 x.2 oM oM oM oM) ?_;refine .ea 5 rfl (Or.mapUpdate (E:=en) 5 2 rfl rfl rfl rfl rfl rfl rfl dE (ear_key _) (earF_flat q2) rfl (fun r hr=> ⟨S2.mk sL (.inl kR),?_⟩));refine .dn ?_;obtain⟨es4,cl4,e4,q6⟩:=q2.put (.bool true) hr;rw[e4];refine U ?_;refine Tc.leaveRound hK1 (i:=0) rfl (.inl ⟨rfl,rfl⟩) (fun H' hs=> q H' H₄ _ hs ⟨es4,cl4,fun y=> y=e0.hear x.1 x.2\/S3 y,rfl,q6.congr (earF_put _ _),fun e=> ?_,q4,q5⟩);rw[q3 e];constructor
    ·rintro(h|⟨y,h1,h2⟩)
     ·exact .inl (.inr h)
     ·rcases List.mem_cons.1 h1 with rfl|h3
      ·exact .inl (.inl h2)
      ·exact .inr ⟨y,h3,h2⟩
    ·rintro((h|h)|⟨y,h1,h2⟩)
     ·exact .inr ⟨x,List.mem_cons_self ..,h⟩
     ·exact .inl h
     ·exact .inr ⟨y,List.mem_cons_of_mem _ h1,h2⟩
   ·rintro r H₄ _ ⟨es3,cl3,S3,rfl,q2,q3,q4,q5⟩;refine Tc.marked ?_;refine U2 ?_;have hfin:=ih₂ ⟨(H₄,seen.push me.born,es3,cl3,r::rs2),View.le_trans p1 (View.le_trans hle3 q5),S3,q2,fun e=> ?_⟩ (by simp only;rw[hp.length_eq];simp)
    ·exact Tc.db hfin
    ·have h3:=q3 e;simp only[List.not_mem_nil,false_and,exists_false,or_false] at h3;rw[p3 e,<-h3];constructor
     ·rintro(h|⟨me',h1,e0',h2,y,h4,h5⟩)
      ·exact .inl (.inl h)
      ·rcases List.mem_cons.1 (hp.mem_iff.1 h1) with rfl|h6
       ·rw[ear_inj (h2.symm.trans u2)] at h5;exact .inl (.inr ⟨y,h4,h5⟩)
       ·exact .inr ⟨me',h6,e0',h2,y,h4,h5⟩
     ·rintro((h|⟨y,h4,h5⟩)|⟨me',h6,h7⟩)
      ·exact .inl h
      ·exact .inr ⟨me,hp.mem_iff.2 (List.mem_cons_self ..),e0,u2,y,h4,h5⟩
      ·exact .inr ⟨me',hp.mem_iff.2 (List.mem_cons_of_mem _ h6),h7⟩
  ·have hnil:=unseen_done hall;rw[hnil] at p3;refine U14 ?_;refine Tc.db (R':= [(2,.pointer (some ⟨b2,0,none⟩)),(5,.map (some mo)),(14,.int .i64 (n:Nat)),(15,.int .i64 ((i+1:Nat):Int))]) (L':= [(mo,true,.map es2 cl2)]++([(b2,true,.cells ⟨(k.val A lc B tc).cells.toList⟩ 128 (0,0))]++Mk rs2)) ?_;refine Tc.permL (L₁:=([(b2,true,.cells ⟨(k.val A lc B tc).cells.toList⟩ 128 (0,0))]++Mk rs2)++[(mo,true,.map es2 cl2)]) List.perm_append_comm ?_;refine Tc.lift (L₂:= [(b2,true,.cells ⟨(k.val A lc B tc).cells.toList⟩ 128 (0,0))]++Mk rs2) (L₁:= [(mo,true,.map es2 cl2)]) rfl (fun Hy hy=> ?_);have hfin:=ih₁ ⟨(Hy,i+1,mo,es2,cl2,rs2),View.le_trans g1 (View.le_trans p1 hy.base),by simp only;omega,⟨true,hy.get (i:=0) rfl⟩,p2.congr fun kv v=> ?_⟩ (by simp only;omega)
   ·exact Tc.db hfin
   ·simp only[List.not_mem_nil,false_and,exists_false,or_false] at p3;unfold earF;simp only[p3]
end
def resF(S:Int->Prop)(kv v:Value):Prop:=∃z,S z/\kv=.int .i64 z/\v=.bool true
theorem int_key(z:Int):KeyFl en 1 3 (.int .i64 z):=⟨_,[.int .i64 z],rfl,rfl,⟨z,rfl⟩⟩
theorem resF_put(z:Int)(S:Int->Prop)(kv v:Value):resF (fun x=> x=z\/S x) kv v<->(kv=.int .i64 z/\v=.bool true)\/(kv≠ .int .i64 z/\resF S kv v):=by
 constructor
 ·rintro⟨x,h1,h2,h3⟩;by_cases hx:x=z
  ·subst hx;exact .inl ⟨h2,h3⟩
  ·refine .inr ⟨fun h=> hx ?_,x,h1.resolve_left hx,h2,h3⟩;rw[h2] at h;simpa using h
 ·rintro(⟨h1,h2⟩|⟨_,x,h1,h2,h3⟩)
  ·exact⟨z,.inl rfl,h1,h2⟩
  ·exact⟨x,.inr h1,h2,h3⟩
theorem resF_keys {es:Array MapEntry}{cl:Nat}{S:Int->Prop}(h:MapOk es cl (resF S)):∀e∈es.toList,∃z,S z/\e.key=.int .i64 z/\e.val=.bool true:=fun e he=>
 (h.mem e.key e.val).2 ⟨e,he,rfl,rfl⟩
theorem resF_flat {es:Array MapEntry}{cl:Nat}{S:Int->Prop}(h:MapOk es cl (resF S)):∀e∈es.toList,KeyFl en 1 3 e.key:=fun e he=> by
 obtain⟨z,_,h2,_⟩:=resF_keys h e he;rw[h2];exact int_key z
set_option maxHeartbeats 4000000
def Bk.fate(k:Bk)(e:Ear)(over:Bool):Int:=match k.line e.heard with
 | some i=> (i:Nat)
 | none=> if(e.deaf||over)||(firstTo (fun i=> begins (k.num i) e.heard) k.nl).isNone then -1 else -2
theorem resF_found {es:Array MapEntry}{cl:Nat}{S:Int->Prop}(h:MapOk es cl (resF S)){z:Int}{t:Bool}(ht:t=true<->S z){r:Option (Nat×Value)}(hr:FindOk es.toList (.int .i64 z) r):foundV (.bool false) r false=.bool t:=by
 have h1:=h.find hr;cases r with
 | none=>
  cases t with
  | false=> rfl
  | true=> exact(h1 (.bool true) ⟨z,ht.1 rfl,rfl,rfl⟩).elim
 | some p=>
  obtain⟨i,v⟩:=p;obtain⟨y,h2,h3,h4⟩:=h1;have hy:z=y:=by simpa using h3
  subst hy;subst h4;rw[ht.2 h2];rfl
section
variable(M:Md prog)(H:View)
theorem fate1_c(e:Ear)(b4:Nat)(f:Bool)(hb:H b4=some (f,.cells ⟨e.val.cells.toList⟩ 135 (0,0)))(a num:List UInt8)(F:Option Addr)(n fc:Nat):
  CallT M 111 #[lineV a num F n fc,.pointer (some ⟨b4,0,none⟩)] H (fun v H'=> H.le H'/\v=.bool (begins num e.heard)):=by
 refine .en func111 ntmps111 fun St c cs hK=> ?_;refine U2 ?_;refine .bo fun b2=> ?_;refine U8 ?_;refine .cl (fun H hs=> HasPrefix_c M H num e.heard) ?_;refine U2 ?_;refine .rt hK func111 results111 [_] ?_;exact okB
theorem fate_c(k:Bk)(A:Option Addr)(lc:Nat)(B:Option Addr)(tc:Nat)(hA:RowsAt H k A lc)(hl:k.nl<=1000)(e:Ear)(over:Bool):
  CallT M 61 #[k.val A lc B tc,e.val,.bool over] H (fun v H'=> H.le H'/\v=.int .i64 (k.fate e over)):=by
 have hln:=fun(H':View) (h':H.le H')=> line_c M H' k A lc B tc (hA.le h') hl e.heard;have hf1:=fun(H':View) (h':H.le H') (fv:Value)=> first_c M H' k A lc (hA.le h') hl fv (fun i=> begins (k.num i) e.heard);cases hk:k.line e.heard with
 | some i=>
  have e1:k.fate e over=(i:Nat):=by unfold Bk.fate;rw[hk]
  rw[e1];rw[hk] at hln;have e2:firstI (some i)=(i:Nat):=rfl;rw[e2] at hln;refine .en func61 ntmps61 fun St c cs hK=> ?_;refine U2 ?_;refine .bo fun b3=> ?_;refine .bo fun b4=> ?_;refine U8 ?_;refine .cl (fun H hs=> hln H hs.base) ?_;refine U13 ?_;refine .rt hK func61 results61 [_] ?_;exact okB
 | none=>
  rw[hk] at hln;have e2:firstI none= -1:=rfl;rw[e2] at hln;obtain⟨df,hdf⟩:∃d,e.deaf=d:=⟨_,rfl⟩
  have ev:e.val=earV e.heard e.pend df:=by rw[<-hdf];rfl
  cases df with
  | true=>
   have e1:k.fate e over= -1:=by unfold Bk.fate;rw[hk];simp[hdf]
   rw[e1,ev];refine .en func61 ntmps61 fun St c cs hK=> ?_;refine U2 ?_;refine .bo fun b3=> ?_;refine .bo fun b4=> ?_;refine U8 ?_;refine .cl (fun H hs=> hln H hs.base) ?_;refine U31 ?_;refine .rt hK func61 results61 [_] ?_;exact okB
  | false=>
   cases over with
   | true=>
    have e1:k.fate e true= -1:=by unfold Bk.fate;rw[hk];simp
    rw[e1,ev];refine .en func61 ntmps61 fun St c cs hK=> ?_;refine U2 ?_;refine .bo fun b3=> ?_;refine .bo fun b4=> ?_;refine U8 ?_;refine .cl (fun H hs=> hln H hs.base) ?_;refine U31 ?_;refine .rt hK func61 results61 [_] ?_;exact okB
   | false=>
    have ask:∀b4 H₀,H₀ b4=some (true,.cells ⟨(earV e.heard e.pend false).cells.toList⟩ 135 (0,0))->AskL M H₀ (.func (.func 111) #[] #[.pointer (some ⟨b4,0,none⟩)]) k (fun i=> begins (k.num i) e.heard):=fun b4 H₀ hb i _ F fc H' hle=>
     FnT.of (first:= []) (captured:= [_]) ca111 rfl (fate1_c M H' e b4 true (by rw[ev];exact hle _ _ hb) (k.name i) (k.num i) F (k.nf i) fc)
    cases hq:firstTo (fun i=> begins (k.num i) e.heard) k.nl with
    | none=>
     have e1:k.fate e false= -1:=by unfold Bk.fate;rw[hk];simp[hq]
     rw[e1,ev];rw[hq,e2] at hf1;refine .en func61 ntmps61 fun St c cs hK=> ?_;refine U2 ?_;refine .bo fun b3=> ?_;refine .bo fun b4=> ?_;refine U8 ?_;refine .cl (fun H hs=> hln H hs.base) ?_;refine U22 ?_;refine .cl (fun H hs=> hf1 H hs.base _ (ask b4 H (hs.get (i:=0) rfl))) ?_;refine U8 ?_;refine .rt hK func61 results61 [_] ?_;exact okB
    | some j=>
     have e1:k.fate e false= -2:=by unfold Bk.fate;rw[hk];simp[hq,hdf]
     rw[e1,ev];rw[hq] at hf1;have e3:firstI (some j)=(j:Nat):=rfl;rw[e3] at hf1;refine .en func61 ntmps61 fun St c cs hK=> ?_;refine U2 ?_;refine .bo fun b3=> ?_;refine .bo fun b4=> ?_;refine U8 ?_;refine .cl (fun H hs=> hln H hs.base) ?_;refine U22 ?_;refine .cl (fun H hs=> hf1 H hs.base _ (ask b4 H (hs.get (i:=0) rfl))) ?_;refine U9 ?_;refine .rt hK func61 results61 [_] ?_;exact okB
end
end Go.Proofs.YtcagolloalgfiaaGreatDoor
namespace Go.Proofs.YtcagolloalgfiaaGreatDoor
open Go.RL Go.Proofs.Tryz
set_option maxRecDepth 10000
theorem ldL_le {sz off:Nat}{gs:List Value}{v:Value}(h:ldL true sz gs off=some v):off+sz<=gs.length/\v=.agg ⟨(gs.drop off).take sz⟩:=by
 unfold ldL at h;simp only at h;split at h
 ·rename_i hle
  exact⟨Nat.le_of_ble_eq_true hle,(Option.some.inj h).symm⟩
 ·cases h
def Bk.earsL(k:Bk):Nat->List Ear
 | 0=> [⟨[],0,false⟩]
 | i+1=> (k.earsL i).flatMap fun e=> (k.can i).map fun x=> e.hear x.1 x.2
theorem Bk.mem_earsL(k:Bk):∀n e,e∈k.earsL n<->k.earsS n e
 | 0,e=> by simp[Bk.earsL,Bk.earsS]
 | n + 1,e=> by
  simp only[Bk.earsL,Bk.earsS,List.mem_flatMap,List.mem_map];constructor
  ·rintro⟨e0,h0,x,hx,rfl⟩;exact⟨e0,(k.mem_earsL n e0).1 h0,x,hx,rfl⟩
  ·rintro⟨e0,h0,x,hx,rfl⟩;exact⟨e0,(k.mem_earsL n e0).2 h0,x,hx,rfl⟩
def distinct:List Int->List Int
 | []=> []
 | x::t=> if x∈distinct t then distinct t else x::distinct t
theorem mem_distinct {x:Int}:∀l:List Int,x∈distinct l<->x∈l
 | []=> Iff.rfl
 | y ::t=> by
  unfold distinct;split
  ·rename_i h
   rw[List.mem_cons,mem_distinct t];constructor
   ·exact .inr
   ·rintro(rfl|h')
    ·exact(mem_distinct t).1 h
    ·exact h'
  ·rw[List.mem_cons,List.mem_cons,mem_distinct t]
theorem distinct_nodup:∀l:List Int,(distinct l).Nodup
 | []=> List.nodup_nil
 | y ::t=> by
  unfold distinct;split
  ·exact distinct_nodup t
  ·rename_i h
   exact List.nodup_cons.2 ⟨h,distinct_nodup t⟩
theorem resF_size {es:Array MapEntry}{cl:Nat}{S:Int->Prop}(h:MapOk es cl (resF S)){l:List Int}(hl:l.Nodup)(hS:∀z,z∈l<->S z):es.size=l.length:=by
 have hp:(es.toList.map (·.key)).Perm (l.map fun z=> Value.int .i64 z):=by
  rw[List.perm_ext_iff_of_nodup h.keys (List.Pairwise.map _ (fun a b hab=> by simpa using hab) hl)];intro x;rw[List.mem_map,List.mem_map];constructor
  ·rintro⟨e,he,rfl⟩;obtain⟨z,h1,h2,_⟩:=resF_keys h e he;exact⟨z,(hS z).2 h1,h2.symm⟩
  ·rintro⟨z,hz,rfl⟩;obtain⟨e,he,h2,_⟩:=(h.mem (.int .i64 z) (.bool true)).1 ⟨z,(hS z).1 hz,rfl,rfl⟩;exact⟨e,he,h2⟩
 have:=hp.length_eq;simpa using this
end Go.Proofs.YtcagolloalgfiaaGreatDoor
namespace Go.RL
open Go.Conc
section
variable {P:Program}{M:Md P}{St:View->Goroutine->Prop}{n:Nat}{b:FB}{H₀ H₁:View}{cs:List Frame}{R:Rg}{L:Bl}{ds:List Deferred}{k:List Item}{md:Region.Mode}{ops:Array Oper}
theorem S2.mkL {B:List Nat}{Ls Lb L₁:Bl}{listed:Array Bool}(hle:H₀.le H₁)(h1:Ls.Sublist L₁)(h2:(B.all fun j=> !(listed.getD j true))=false\/Lb.Sublist L₁):∀H,SymSt H₁ L₁ H->S2 H₀ B Ls Lb listed H:=fun H hs=> S2.mk h1 h2 H (hs.lower hle)
theorem Ta.callL(i:Nat){B:List Nat}{Hs:View}{Ls Lb:Bl}{o:Oper}{d:Nat}{fuel:Nat}{listed:Array Bool}{cl:Go.Call}{x:Operand}{fv:Value}{az:List Value}(hr:Region.ready md ops listed= [i])(hi:ops[i]? =some o)
  (hw:wantB (ops.toList.map (fun o:Oper=> o.dst)) R o=some true) (hop:o.op=.call cl) (hcl:cl.callee=.value x) (hx:evR R x=some fv) (has:evRs R cl.args.toList=some az) (hd:o.dst=some d) (hn:d<n)
  {Q:Value->View->Prop} (hc:FnT M fv az H₀ Q) (hle:∀v H₁,Q v H₁->Hs.le H₁) (h1:Ls.Sublist L) (h2:(B.all fun j=> !((listed.setIfInBounds i true).getD j true))=false\/Lb.Sublist L)
  (hk:∀v H₁,Q v H₁->Ta M St n b H₁ cs (S2 Hs B Ls Lb) md ops fuel (listed.setIfInBounds i true) ((d,v)::R) L ds k):
  Ta M St n b H₀ cs (S2 Hs B Ls Lb) md ops (fuel+1) listed R L ds k:=fun H tmps hs hr' _ H₂ h2' _=> by
 have hs:=hs.mono h2';refine⟨fun e=> (by rw[hr] at e;cases e),fun j hj o' ho'=> ?_⟩;rw[hr] at hj;have:j=i:=by simpa using hj
 subst this;rw[hi] at ho';cases ho'
 refine⟨(by rw[hop];rfl),?_⟩;have hw':Region.wanted o (yielded ops tmps)=true:=wantB_ok (fun j=> by
  simp only[List.getElem?_map,Array.getElem?_toList];cases ops[j]? <;> rfl) hr' hw
 rw[if_pos hw'];obtain⟨F,rfl,hdj,hF⟩:=hs.split;have e1:=hr'.ev hx;have hmap:cl.args.map (evT tmps)=az.toArray:=by
  apply Array.ext'
  simpa using hr'.evs has
 have hex:execOp (evT tmps) o=(Deferred.ofValue fv az.toArray).bind fun d=> invoke d.target d.args:=by
  have h1:execOp (evT tmps) o=(resolve (evT tmps) cl o.type).bind fun d=> invoke d.target d.args:=by unfold execOp;rw[hop];rfl
  rw[h1];unfold resolve;rw[hcl];simp only[e1,hmap]
 unfold OpRun;rw[hex];have fin:∀v H'',Beside F Q v H''->S2 Hs B Ls Lb (listed.setIfInBounds j true) H''/\AnyT M md ops (S2 Hs B Ls Lb) (fun tmps H=> T M St H (G (b.at tmps ds k) cs)) fuel (listed.setIfInBounds j true) (putT tmps o.dst v) H'':=by
  rintro v H'' ⟨H₁,rfl,hd',hq⟩;have hsy:SymSt H₁ L (H₁.plus F):=.joined hs.nodup hF hd';have hS:S2 Hs B Ls Lb (listed.setIfInBounds j true) (H₁.plus F):=S2.mkL (hle v H₁ hq) h1 h2 _ hsy;refine⟨hS,?_⟩;rw[hd];exact hk v H₁ hq _ _ hsy (hr'.put hn v) hS
 refine vwp_mono _ (fun nx H' hn'=> ?_) (hc.frame hdj);cases nx <;> first
  | exact hn'.elim
  | exact CallT.mono hn' fin
  | exact GoT.mono hn' fin
end
end Go.RL
namespace Go.Proofs.YtcagolloalgfiaaGreatDoor
open Go.RL Go.Proofs.Tryz
set_option maxRecDepth 10000
set_option maxHeartbeats 16000000
def Bk.fateAt(k:Bk)(n:Nat):Option Int:=match distinct ((k.earsL n).map fun e=> k.fate e (decide (n=k.nt))) with
 | [f]=> if f= -2 then none else some f
 | _=> none
def Bk.settledTo(k:Bk):Nat->Option (Nat×Int)
 | 0=> none
 | n+1=> (k.settledTo n).or ((k.fateAt n).map fun f=> (n,f))
def Bk.settled(k:Bk):Option (Nat×Int):=k.settledTo (k.nt+1)
theorem Bk.settledTo_stays {k:Bk}{j:Nat}{x:Nat×Int}(h:k.settledTo j=some x):∀m,j<=m->k.settledTo m=some x:=by
 intro m hm;induction m with
 | zero=>
  have:j=0:=by omega
  subst this;exact h
 | succ m ih=>
  by_cases e:j=m+1
  ·subst e;exact h
  ·rw[Bk.settledTo,ih oM];rfl
theorem distinct_one {l:List Int}{z:Int}(h0:z∈l)(h:∀y∈l,y=z):distinct l= [z]:=by
 have hm:∀y,y∈distinct l<->y∈l:=fun y=> mem_distinct l;have hn:=distinct_nodup l;cases hd:distinct l with
 | nil=>
  have:=(hm z).2 h0;rw[hd] at this;cases this
 | cons a t=>
  rw[hd] at hm hn;have ha:a=z:=h a ((hm a).1 (List.mem_cons_self ..));cases t with
  | nil=> rw[ha]
  | cons b t'=>
   have hb:b=z:=h b ((hm b).1 (by simp));rw[ha,hb] at hn;simp at hn
theorem Bk.fateAt_some {k:Bk}{n:Nat}{f:Int}(hf:f≠ -2){e0:Ear}(h0:k.earsS n e0)(h:∀e,k.earsS n e->k.fate e (decide (n=k.nt))=f):k.fateAt n=some f:=by
 unfold Bk.fateAt;rw[distinct_one (z:=f)]
 ·simp only;rw[if_neg hf]
 ·exact List.mem_map.2 ⟨e0,(k.mem_earsL n e0).2 h0,h e0 h0⟩
 ·intro y hy;obtain⟨e,he,rfl⟩:=List.mem_map.1 hy;exact h e ((k.mem_earsL n e).1 he)
theorem Bk.fateAt_all {k:Bk}{n:Nat}{f:Int}(h:k.fateAt n=some f):f≠ -2/\∀e,k.earsS n e->k.fate e (decide (n=k.nt))=f:=by
 unfold Bk.fateAt at h;split at h
 ·rename_i g hg
  split at h
  ·cases h
  ·rename_i hne
   cases h
   refine⟨hne,fun e he=> ?_⟩;have:=(mem_distinct _).2 (List.mem_map.2 ⟨e,(k.mem_earsL n e).2 he,rfl⟩:k.fate e (decide (n=k.nt))∈(k.earsL n).map fun e=> k.fate e (decide (n=k.nt)));rw[hg] at this;simpa using this
 ·cases h
theorem Bk.fateAt_none2 {k:Bk}{n:Nat}{e e':Ear}(h:k.earsS n e)(h':k.earsS n e')(hne:k.fate e (decide (n=k.nt))≠k.fate e' (decide (n=k.nt))):k.fateAt n=none:=by
 cases hq:k.fateAt n with
 | none=> rfl
 | some f=>
  obtain⟨_,h2⟩:=Bk.fateAt_all hq;exact(hne ((h2 e h).trans (h2 e' h').symm)).elim
theorem Bk.fateAt_none1 {k:Bk}{n:Nat}{e:Ear}(h:k.earsS n e)(hne:k.fate e (decide (n=k.nt))= -2):k.fateAt n=none:=by
 cases hq:k.fateAt n with
 | none=> rfl
 | some f=>
  obtain⟨h1,h2⟩:=Bk.fateAt_all hq;exact(h1 ((h2 e h).symm.trans hne)).elim
theorem Bk.ears_some(k:Bk)(hok:k.trainsOk):∀n,n<=k.nt->∃e,k.earsS n e
 | 0,_=> ⟨_,rfl⟩
 | n + 1,hn=> by
  obtain⟨e0,h0⟩:=k.ears_some hok n oM;obtain⟨h1,h2,h3⟩:=k.train_in hok (i:=n) oM;refine⟨_,e0,h0,((k.pf n).toNat,k.kind (k.qf n)),mem_canL.2 ⟨⟨Nat.le_refl _,oM⟩,Nat.le_refl _,?_⟩,rfl⟩;simp only;unfold Bk.kind;split
  ·omega
  ·split
   ·split
    ·omega
    ·split <;> omega
   ·split
    ·omega
    ·split
     ·omega
     ·omega
theorem Bk.alarm0 {k:Bk}(h:k.alarm=0):k.pausesA=0/\k.linesA=0/\k.trainsA=0:=by
 unfold Bk.alarm at h;split at h
 ·rename_i h1
  split at h
  ·rename_i h2
   exact⟨h1,h2,h⟩
  ·rename_i h2
   exact(h2 h).elim
 ·rename_i h1
  exact(h1 h).elim
theorem firstTo_none {p:Nat->Bool}:∀n,firstTo p n=none<->∀i,i<n->p i=false
 | 0=> ⟨fun _ i hi=> by omega,fun _=> rfl⟩
 | n + 1 => by
  rw[firstTo];constructor
  ·intro h i hi;cases hq:firstTo p n with
   | some j=> rw[hq] at h;cases h
   | none=>
    rw[hq] at h;by_cases e:i=n
    ·subst e;cases hp:p i with
     | false=> rfl
     | true=> rw[hp] at h;cases h
    ·exact(firstTo_none n).1 hq i oM
  ·intro h;rw[(firstTo_none n).2 (fun i hi=> h i oM),h n oM];rfl
theorem Bk.valid {k:Bk}(h:k.alarm=0):(1<=k.gap/\k.gap<=99/\k.gap+1<=k.give/\k.give<=99)/\k.nl<=6/\k.nt<=6/\k.trainsOk:=by
 obtain⟨h1,h2,h3⟩:=Bk.alarm0 h;unfold Bk.pausesA at h1;unfold Bk.linesA at h2;unfold Bk.trainsA at h3;refine⟨?_,?_,?_,?_⟩
 ·split at h1
  ·omega
  ·cases h1
 ·split at h2
  ·cases h2
  ·omega
 ·split at h3
  ·cases h3
  ·omega
 ·split at h3
  ·cases h3
  ·split at h3
   ·cases h3
   ·rename_i hq
    intro i hi;have h4:firstTo k.trainBad k.nt=none:=by
     cases hz:firstTo k.trainBad k.nt with
     | none=> rfl
     | some j=> rw[hz] at hq;exact(hq rfl).elim
    have h5:=(firstTo_none _).1 h4 i hi;unfold Bk.trainBad at h5;simpa using h5
def settledV:Option (Nat×Int)->Value
 | none=> .tuple ⟨[.int .i64 0,.int .i64 0,.bool false,.int .i64 0]⟩
 | some (n,f)=> .tuple ⟨[.int .i64 (n:Nat),.int .i64 f,.bool true,.int .i64 0]⟩
theorem map_find {es:Array MapEntry}{cl:Nat}{F:Value->Value->Prop}(h:MapOk es cl F){e:MapEntry}(he:e∈es.toList):es.find? (fun x=> x.born==e.born)=some e:=by
 rw[<-Array.find?_toList];cases hf:es.toList.find? (fun x=> x.born==e.born) with
 | none=> have:=List.find?_eq_none.1 hf e he;simp at this
 | some e'=>
  have h3:=List.mem_of_find?_eq_some hf;have h4:=List.find?_some hf;simp only[beq_iff_eq] at h4;obtain⟨i,hi,rfl⟩:=List.mem_iff_getElem.1 h3;obtain⟨j,hj,rfl⟩:=List.mem_iff_getElem.1 he;have hb:=h.borns;have hi':i<(es.toList.map (·.born)).length:=by rw[List.length_map];exact hi
  have hj':j<(es.toList.map (·.born)).length:=by rw[List.length_map];exact hj
  have:(es.toList.map (·.born))[i]=(es.toList.map (·.born))[j]:=by rw[List.getElem_map,List.getElem_map];exact h4
  have:=(List.getElem_inj hb).1 this;subst this;rfl
section
variable(M:Md prog)(H:View)
theorem Settled_c(k:Bk)(A:Option Addr)(lc:Nat)(B:Option Addr)(tc:Nat)(hk:BkAt H k A lc B tc)(hn:k.small)(hG:Glob H)(ha:k.alarm=0):
  CallT M 23 #[k.val A lc B tc] H (fun v H'=> H.le H'/\v=settledV k.settled):=by
 obtain⟨_,hnl,hnt,hok⟩:=Bk.valid ha;refine .en func23 ntmps23 fun St c cs hK=> ?_;refine U2 ?_;refine .bo fun b1=> ?_;refine U5 ?_;refine Tc.scope ?_;refine U3 ?_;refine .cl (fun H hs=> open_yes M H k A lc B tc (hk.le hs.base) hn (glob_le hG hs.base) ha) ?_;refine U3 ?_;refine .al fun b6=> ?_;refine U12 ?_;refine Tc.label ?_;refine U10 ?_;refine Tc.db (Tc.loopB (σ:= { s:View×Nat//H.le s.1/\s.2<=k.nt+1/\k.settledTo s.2=none })
  (fun s=> (s.1.1,[(1,.pointer (some ⟨b1,0,none⟩)),(6,.pointer (some ⟨b6,0,none⟩)),(22,.int .i64 ((k.nt+1:Nat):Int)),(23,.int .i64 (s.1.2:Nat))],[(b6,true,.cells ⟨(k.val A lc B tc).cells.toList⟩ 128 (0,0)),(b1,true,.cells ⟨(k.val A lc B tc).cells.toList⟩ 36 (0,0))])) (fun s=> k.nt+1-s.1.2) ?_ ⟨(H,0),View.le_refl _,Nat.zero_le _,rfl⟩)
 rintro⟨⟨H₁,n⟩,g1,g2,g3⟩ ih₁;simp only at g1 g2 g3;show Tc M St _ _ H₁ _ [(1,.pointer (some ⟨b1,0,none⟩)),(6,.pointer (some ⟨b6,0,none⟩)),(22,.int .i64 ((k.nt+1:Nat):Int)),(23,.int .i64 (n:Nat))] [(b6,true,.cells ⟨(k.val A lc B tc).cells.toList⟩ 128 (0,0)),(b1,true,.cells ⟨(k.val A lc B tc).cells.toList⟩ 36 (0,0))] _ _;by_cases c1:n=k.nt+1
 ·have e:k.settled=none:=by unfold Bk.settled;rw[<-c1];exact g3
  subst c1;rw[e] at hK;refine U14 ?_;refine .rt hK func23 results23 [_,_,_,_] ?_;exact fun H' hs=> ⟨View.le_trans g1 hs.base,rfl⟩
 ·have c2 : n <=k.nt:=by omega
  have hover:intBin .eql .i64 ((n:Nat):Int) ((k.nt:Nat):Int)=some (.bool (decide (n=k.nt))):=by
   by_cases c:n=k.nt
   ·rw[decide_eq_true c];exact eql_t oM
   ·rw[decide_eq_false c];exact eql_f oM
  refine U16 ?_;refine .e (Or.makeMap rfl rfl dE (fun mf=> ?_));refine U7 ?_;refine To.callF rfl rfl rfl rfl rfl rfl dE (FnT.h (ears_c M H₁ k A lc B tc (hk.trains.le g1) hok hnt n c2)) (fun v H₂ hv=> ?_);obtain⟨hle,m,es,cl,rfl,⟨fm,q3⟩,q4⟩:=hv;refine .e (Or.range (E:=en) (es:=es) (cl:=cl) rfl rfl (fun H hs=> ⟨fm,hs.base _ _ q3⟩) rfl rfl rfl dE (fun it=> ?_));refine U2 ?_;refine Tc.db (Tc.loopInv (σ:= { s:Array Nat×Array MapEntry×Nat×Option Int//MapOk s.2.1 s.2.2.1 (resF fun z=> s.2.2.2=some z)/\(∀z,s.2.2.2=some z->z≠ -2/\∃e,k.earsS n e/\k.fate e (decide (n=k.nt))=z)/\∀e,k.earsS n e->(s.2.2.2=some (k.fate e (decide (n=k.nt)))\/∃me∈unseen es s.1,me.key=e.val) })
   (fun s=> ([(1,.pointer (some ⟨b1,0,none⟩)),(6,.pointer (some ⟨b6,0,none⟩)),(7,.int .i64 (n:Nat)),(8,.map (some mf)),(22,.int .i64 ((k.nt+1:Nat):Int)),(23,.int .i64 (n:Nat)),(30,.pointer (some ⟨it,0,none⟩))],[(it,true,.mapIter (some m) cl s.1.1 cl),(mf,true,.map s.1.2.1 s.1.2.2.1),(b6,true,.cells ⟨(k.val A lc B tc).cells.toList⟩ 128 (0,0)),(b1,true,.cells ⟨(k.val A lc B tc).cells.toList⟩ 36 (0,0))])) (fun s=> (unseen es s.1.1).length) ?_ ⟨(#[],#[],0,none),MapOk.nil.congr (by rintro a b;simp[resF]),(fun z h=> by cases h),fun e he=> by
    rw[unseen_start];obtain⟨me,h1,h2,_⟩:=(q4.mem e.val (.bool true)).1 ⟨e,he,rfl,rfl⟩;exact .inr ⟨me,h1,h2⟩⟩)
  rintro⟨⟨seen,es2,cl2,o⟩,p2,p3,p4⟩ ih₂;simp only at p2 p3 p4;show Tc M St _ _ H₂ _ [(1,.pointer (some ⟨b1,0,none⟩)),(6,.pointer (some ⟨b6,0,none⟩)),(7,.int .i64 (n:Nat)),(8,.map (some mf)),(22,.int .i64 ((k.nt+1:Nat):Int)),(23,.int .i64 (n:Nat)),(30,.pointer (some ⟨it,0,none⟩))] [(it,true,.mapIter (some m) cl seen cl),(mf,true,.map es2 cl2),(b6,true,.cells ⟨(k.val A lc B tc).cells.toList⟩ 128 (0,0)),(b1,true,.cells ⟨(k.val A lc B tc).cells.toList⟩ 36 (0,0))] _ _;refine U2 ?_;refine .e (Or.next (es:=es) 0 rfl rfl rfl (fun H hs=> ⟨fm,hs.base _ _ q3⟩) q4.lt rfl dE (fun me he hse=> ?_) (fun hall=> ?_))
  ·have hp :=unseen_next q4.borns he hse;obtain⟨e0,u1,u2,_⟩:=earF_keys q4 me he;have hfind:=earF_find q4 he;have hf:=fun(H':View) (h':H₂.le H')=> fate_c M H' k A lc B tc (hk.rows.le (View.le_trans g1 (View.le_trans hle h'))) hn.nl e0 (decide (n=k.nt));obtain⟨z,hz⟩:∃z,k.fate e0 (decide (n=k.nt))=z:=⟨_,rfl⟩
   rw[hz] at hf;refine U8 ?_;refine .e (Or.entry (es:=es) (e:=me) (st:=me.born) rfl rfl (fun H hs=> ⟨true,hs.get (i:=0) rfl⟩) (fun H hs=> ⟨fm,hs.base _ _ q3⟩) (by simp) hfind rfl dE ?_);rw[u2];refine U ?_;refine .al fun b9=> ?_;refine U12 ?_;refine .cl (fun H hs=> hf H hs.base) ?_;refine .e (Or.mapUpdate (E:=en) 2 1 rfl rfl rfl rfl rfl rfl rfl dE (int_key _) (resF_flat p2) rfl (fun r hr=> ?_));obtain⟨es4,cl4,e4,q6⟩:=p2.put (.bool true) hr;rw[e4];refine U ?_;have q7:MapOk es4 cl4 (resF fun y=> y=z\/o=some y):=q6.congr (resF_put _ _);have next0:k.fateAt n=none->k.settledTo (n+1)=none:=fun h=> by rw[Bk.settledTo,g3,h];rfl
   by_cases d1:∃y,o=some y/\y≠z
   ·obtain⟨y,d2,d3⟩:=d1;obtain⟨_,e1,d4,d5⟩:=p3 y d2;have hno:=next0 (Bk.fateAt_none2 d4 u1 (by rw[d5,hz];exact d3));have hsz:es4.size=2:=resF_size q7 (l:= [z,y]) (by simp;exact fun h=> d3 h.symm) (fun x=> by rw[d2];simp;constructor <;> (rintro(h|h) <;> simp[h]));refine U3 ?_;refine .x (OpV.lenMap (E:=en) (es:=es4) rfl rfl rfl rfl rfl (fun H hs=> ⟨true,hs.get (i:=2) rfl⟩) rfl rfl) ?_;refine U12 ?_;exact Tc.db (ih₁ ⟨(H₂,n+1),View.le_trans g1 hle,by simp only;omega,hno⟩ (by simp only;omega))
   ·have q8 :MapOk es4 cl4 (resF fun y=> y=z):=by
     have e:(fun y=> y=z\/o=some y)=fun y=> y=z:=by
      funext y
      refine propext ⟨?_,.inl⟩;rintro(h|h)
      ·exact h
      ·exact Classical.byContradiction fun h'=> d1 ⟨y,h,h'⟩
     rw[<-e];exact q7
    have hsz:es4.size=1:=resF_size q8 (l:= [z]) (by simp) (fun x=> by simp);by_cases d2:z= -2
    ·have hno:=next0 (Bk.fateAt_none1 u1 (hz.trans d2));refine U3 ?_;refine .x (OpV.lenMap (E:=en) (es:=es4) rfl rfl rfl rfl rfl (fun H hs=> ⟨true,hs.get (i:=2) rfl⟩) rfl rfl) ?_;refine U3 ?_;refine .x (OpV.lookup (E:=en) 1 (es:=es4) (v:=.bool true) rfl rfl rfl (fun H hs=> ⟨true,hs.get (i:=2) rfl⟩) rfl rfl rfl dE (int_key (-2)) (resF_flat q8) (fun r hr=> resF_found q8 (t:=true) (by simp[d2]) hr)) ?_;refine U8 ?_;exact Tc.db (ih₁ ⟨(H₂,n+1),View.le_trans g1 hle,by simp only;omega,hno⟩ (by simp only;omega))
    ·have d3:¬(-2:Int)=z:=fun h=> d2 h.symm;refine U3 ?_;refine .x (OpV.lenMap (E:=en) (es:=es4) rfl rfl rfl rfl rfl (fun H hs=> ⟨true,hs.get (i:=2) rfl⟩) rfl rfl) ?_;refine U3 ?_;refine .x (OpV.lookup (E:=en) 1 (es:=es4) (v:=.bool false) rfl rfl rfl (fun H hs=> ⟨true,hs.get (i:=2) rfl⟩) rfl rfl rfl dE (int_key (-2)) (resF_flat q8) (fun r hr=> resF_found q8 (t:=false) (by simp[d3]) hr)) ?_;refine U5 ?_;exact Tc.db (ih₂ ⟨(seen.push me.born,es4,cl4,some z),q8.congr (by intro a b;simp[resF,eq_comm]),(fun y h=> by cases h;exact⟨d2,e0,u1,hz⟩),fun e he=> by
      rcases p4 e he with h|⟨me',h1,h2⟩
      ·refine .inl ?_;have h3:=Classical.byContradiction fun h'=> d1 ⟨_,h,h'⟩;rw[h3]
      ·rcases List.mem_cons.1 (hp.mem_iff.1 h1) with rfl|h6
       ·have:=ear_inj (h2.symm.trans u2);rw[this,hz];exact .inl rfl
       ·exact .inr ⟨me',h6,h2⟩⟩ (by simp only;rw[hp.length_eq];simp))
  ·have hnil:=unseen_done hall;rw[hnil] at p4;simp only[List.not_mem_nil,false_and,exists_false,or_false] at p4;obtain⟨e1,he1⟩:=k.ears_some hok n c2;obtain⟨z,hz⟩:∃z,k.fate e1 (decide (n=k.nt))=z:=⟨_,rfl⟩
   have hoz:o=some z:=by rw[<-hz];exact p4 e1 he1
   subst hoz;have hall2:∀e,k.earsS n e->k.fate e (decide (n=k.nt))=z:=fun e he=> (Option.some.inj (p4 e he)).symm;have hfa:k.fateAt n=some z:=Bk.fateAt_some (p3 z rfl).1 he1 hall2;have hset:k.settled=some (n,z):=Bk.settledTo_stays (j:=n+1) (by rw[Bk.settledTo,g3,hfa];rfl) _ oM;rw[hset] at hK;refine U8 ?_;refine .e (Or.range (E:=en) (es:=es2) (cl:=cl2) rfl rfl (fun H hs=> ⟨true,hs.get (i:=1) rfl⟩) rfl rfl rfl dE (fun it2=> ?_));refine .done (.block (.loop (.sr ?_)));refine .e (Or.next (es:=es2) 0 rfl rfl rfl (fun H hs=> ⟨true,hs.get (i:=2) rfl⟩) p2.lt rfl dE (fun me he hse=> ?_) (fun hall=> ?_))
   ·obtain⟨y,u1,u2,_⟩:=resF_keys p2 me he;have u3:y=z:=(Option.some.inj u1).symm;subst u3;have hfind:=map_find p2 he;refine U8 ?_;refine .e (Or.entry (es:=es2) (e:=me) (st:=me.born) rfl rfl (fun H hs=> ⟨true,hs.get (i:=0) rfl⟩) (fun H hs=> ⟨true,hs.get (i:=2) rfl⟩) (by simp) hfind rfl dE ?_);rw[u2];refine U12 ?_;refine .rt hK func23 results23 [_,_,_,_] ?_;exact fun H' hs=> ⟨View.le_trans g1 (View.le_trans hle hs.base),rfl⟩
   ·have h1:=unseen_done hall;rw[unseen_start] at h1;obtain⟨me,h2,_⟩:=(p2.mem (.int .i64 z) (.bool true)).1 ⟨z,rfl,rfl,rfl⟩;rw[h1] at h2;cases h2
end
def clL(f:Nat->Int)(n:Nat):List Value:=(List.range n).map fun i=> .int .i64 (f i)
theorem ldL_cell {sz off d:Nat}{gs c:List Value}(h:ldL true sz gs off=some (.agg ⟨c⟩))(hd:d<sz):ldL false 1 gs (off+d)=c[d]? :=by
 obtain⟨h1,h2⟩:=ldL_le h;simp only[Value.agg.injEq,Array.mk.injEq] at h2;show gs[_]? =_;rw[h2,List.getElem?_take,if_pos hd,List.getElem?_drop]
end Go.Proofs.YtcagolloalgfiaaGreatDoor
namespace Go.RL
open Go.Conc
def bytesV(s:List UInt8):List Value:=s.map fun b=> .int .u8 (b.toNat:Nat)
theorem bytesV_len(s:List UInt8):(bytesV s).length=s.length:=by simp[bytesV]
theorem bytesV_app(s t:List UInt8):bytesV (s++t)=bytesV s++bytesV t:=by simp[bytesV]
theorem bytesV_single(s:List UInt8):(bytesV s).all single=true:=by
 rw[List.all_eq_true];intro x hx;obtain⟨b,_,rfl⟩:=List.mem_map.1 hx;rfl
section
variable {P:Program}{E:Env P}{M:Md P}{n:Nat}{H₀:View}{R:Rg}{L L':Bl}{K:Rg->Bl->Prop}{o:Oper}{d:Nat}{v:Value}
theorem bytes_push(a:List UInt8)(b:UInt8):(ByteArray.mk ⟨a⟩).push b=ByteArray.mk ⟨a++[b]⟩:=by
 apply ByteArray.ext
 apply Array.ext'
 simp
end
section
variable {P:Program}{E:Env P}{M:Md P}{n:Nat}{H₀:View}{R:Rg}{L L':Bl}{K:Rg->Bl->Prop}{o:Oper}{d:Nat}{v:Value}
structure Xt(P:Program)(f:FuncId)(e:Array Value->Sem Value):Prop where
 ex:∃fn,P.funcs[f]? =some fn/\(fn.name== "runtime.NumGoroutine")=false/\fn.body.isNone=true/\Extern.findNext fn=none/\Extern.find fn=some e
theorem vwp_entry {g:FuncId}{e:Array Value->Sem Value}{args:Array Value}{H:View}{Q:Next->View->Prop}(he:Xt P g e)(h:vwp P (e args) H fun u H'=> Q (.value u) H'):vwp P (callFunc g args) H Q:=by
 obtain⟨fn,h1,h2,h3,h4,h5⟩:=he;show vwp P (match P.funcs[g]? with|none=> _|some fn=> _) H Q;rw[h1];simp only[h2,h3,h4,h5,Bool.false_eq_true,if_false,if_true];refine⟨rfl,?_⟩;exact vwp_bind (e args) _ h
theorem OpV.entry {cl:Go.Call}{x:Operand}{g:FuncId}{az:List Value}{e:Array Value->Sem Value}(hop:o.op=.call cl)(hcl:cl.callee=.value x)(hx:evR R x=some (.func (.func g) #[] #[]))(has:evRs R cl.args.toList=some az)(he:Xt P g e)
  (hv:∀(H:View) (Q:Value->View->Prop),Q v H->vwp P (e az.toArray) H Q):OpV P n H₀ R L o v:=fun H tmps _ hr=> by
 have e1:=hr.ev hx;have hmap:cl.args.map (evT tmps)=az.toArray:=by
  apply Array.ext'
  simpa using hr.evs has
 have hex:execOp (evT tmps) o=(resolve (evT tmps) cl o.type).bind fun d=> invoke d.target d.args:=by unfold execOp;rw[hop];rfl
 rw[hex];have:((resolve (evT tmps) cl o.type).bind fun d=> invoke d.target d.args)=(Deferred.ofValue (.func (.func g) #[] #[]) az.toArray).bind fun d=> invoke d.target d.args:=by
  unfold resolve;rw[hcl];simp only[e1,hmap]
 rw[this];simp only[Deferred.ofValue];show vwp P (callFunc g (#[]++az.toArray ++ #[])) H _;have e3:(#[]:Array Value)++az.toArray ++ #[]=az.toArray:=by simp
 rw[e3];exact vwp_entry he (hv H _ ⟨rfl,rfl⟩)
theorem vwp_viewAt {H:View}{r:Nat}{f:Bool}{c:Array Value}{e:TypeId}{fz:Nat×Nat}{Q:Option (Addr×TypeId)->View->Prop}(hb:H r=some (f,.cells c e fz))(h:Q none H):vwp P (viewAt r) H Q:=⟨f,c,e,fz,hb,h⟩
theorem vwp_cellsIn {H:View}{r:Nat}{f:Bool}{c:Array Value}{e:TypeId}{fz:Nat×Nat}{Q:Option Nat->View->Prop}(hb:H r=some (f,.cells c e fz))(h:Q (some c.size) H):vwp P (cellsIn r) H Q:=⟨f,c,e,fz,hb,h⟩
theorem vwp_seenAt {H:View}{a:Addr}{f:Bool}{c:Array Value}{e:TypeId}{fz:Nat×Nat}{Q:Addr->View->Prop}(hb:H a.block=some (f,.cells c e fz))(h:Q a H):vwp P (Conv.seenAt a) H Q:=by
 refine vwp_bind (viewAt a.block) _ (vwp_viewAt hb ?_);exact h
theorem OpV.toUn(j:Nat){t u pt:TypeId}{x:Operand}{blk off:Nat}{f:Bool}{c:List Value}{e:TypeId}{fz:Nat×Nat}{r:TyRow}(hop:o.op=.convert t u x)(hx:evR R x=some (.pointer (some ⟨blk,off,none⟩)))(hi:L[j]? =some (blk,f,.cells ⟨c⟩ e fz))
  (ht:P.underlying t=some (.pointer pt)) (hu:P.underlying u=some .unsafePointer) (hr:E.ty pt=some r) (h0:Nat.beq r.size 0=false) (hl:Nat.blt off c.length=true):OpV P n H₀ R L o (.pointer (some ⟨blk,off,none⟩)):=fun H tmps hs hrr=> by
 unfold execOp;rw[hop];simp only[hrr.ev hx];refine vwp_bind (convert t u (.pointer (some ⟨blk,off,none⟩))) _ ?_;unfold convert;refine vwp_bind (underlying t) _ (vwp_underlying ht (vwp_bind (underlying u) _ (vwp_underlying hu ?_)));show vwp P (Conv.unsafePointer t u (.pointer (some ⟨blk,off,none⟩))) H _;unfold Conv.unsafePointer;refine vwp_bind (underlying t) _ (vwp_underlying ht (vwp_bind (underlying u) _ (vwp_underlying hu ?_)));have hb:=hs.get hi;refine vwp_bind (Conv.seenAt ⟨blk,off,none⟩) _ (vwp_seenAt hb ?_);refine vwp_bind (cellsIn blk) _ (vwp_cellsIn hb ?_);refine vwp_bind (sizeOf pt) _ (vwp_sizeOf (E.ok _ _ hr).size ?_);have h1:r.size≠0:=Nat.ne_of_beq_eq_false h0;have h2:off<c.length:=by simpa [Nat.blt_eq] using hl
 have h3:(decide (r.size=0)||(decide (off≥(⟨c⟩:Array Value).size)&&(none:Option (Nat×Nat)).isNone))=false:=by
  have e1:decide (r.size=0)=false:=decide_eq_false h1;have e2:decide (off≥(⟨c⟩:Array Value).size)=false:=decide_eq_false (by show ¬off≥c.length;omega);rw[e1,e2];rfl
 rw[if_neg (by intro h;exact Bool.false_ne_true (h3.symm.trans h))];exact⟨rfl,rfl⟩
theorem OpV.fromUn(j:Nat){t u pt:TypeId}{x:Operand}{blk off:Nat}{f:Bool}{c:List Value}{e:TypeId}{fz:Nat×Nat}{r:TyRow}(hop:o.op=.convert t u x)(hx:evR R x=some (.pointer (some ⟨blk,off,none⟩)))(hi:L[j]? =some (blk,f,.cells ⟨c⟩ e fz))
  (ht:P.underlying t=some .unsafePointer) (hu:P.underlying u=some (.pointer pt)) (hr:E.ty pt=some r) (hlies:liesAt P P.depth e (c.length/P.cellsOf e) off pt 1=true):OpV P n H₀ R L o (.pointer (some ⟨blk,off,none⟩)):=fun H tmps hs hrr=> by
 unfold execOp;rw[hop];simp only[hrr.ev hx];refine vwp_bind (convert t u (.pointer (some ⟨blk,off,none⟩))) _ ?_;unfold convert;refine vwp_bind (underlying t) _ (vwp_underlying ht (vwp_bind (underlying u) _ (vwp_underlying hu ?_)));show vwp P (Conv.unsafePointer t u (.pointer (some ⟨blk,off,none⟩))) H _;unfold Conv.unsafePointer;refine vwp_bind (underlying t) _ (vwp_underlying ht (vwp_bind (underlying u) _ (vwp_underlying hu ?_)));have hb:=hs.get hi;refine vwp_bind (Conv.seenAt ⟨blk,off,none⟩) _ (vwp_seenAt hb ?_);refine vwp_bind (sizeOf pt) _ (vwp_sizeOf (E.ok _ _ hr).size ?_);refine vwp_bind (variablesAt ⟨blk,off,none⟩ pt 1) _ ?_;refine⟨f,_,_,_,hb,?_⟩;show vwp P (Sem.pure (liesAt P P.depth e (c.length/P.cellsOf e) off pt 1)) H _;rw[hlies];show vwp P (if(decide (r.size=0)||true)=true then _ else _) H _;rw[if_pos (by rw[Bool.or_true])];exact⟨rfl,rfl⟩
theorem OpV.ptrNil(b:Bool){t u pt:TypeId}{x y:Operand}{p:Option Addr}(hop:o.op=.binOp .eql t x y u)(hx:evR R x=some (.pointer p))(hy:evR R y=some (.pointer none))(ht:P.underlying t=some (.pointer pt))(hb:p.isNone=b):OpV P n H₀ R L o (.bool b):=fun H tmps _ hr=> by
 subst hb;unfold execOp;rw[hop];simp only[hr.ev hx,hr.ev hy];show vwp P (((eqGuard .eql t x y (.pointer p) (.pointer none)).bind fun _=> binOp .eql t (.pointer p) (.pointer none)).bind _) H _;refine vwp_bind _ _ (vwp_bind _ _ ?_);show vwp P ((Op.equalIn (9999+1) t (.pointer p) (.pointer none)).bind fun c=> Sem.pure (Value.bool c)) H _;refine vwp_bind _ _ ?_;unfold Op.equalIn;refine vwp_bind (underlying t) _ (vwp_underlying ht ?_);cases p <;> exact⟨rfl,rfl⟩
theorem OpV.ptrSame {t u pt:TypeId}{x y:Operand}{a:Addr}{r:TyRow}(hop:o.op=.binOp .neq t x y u)(hx:evR R x=some (.pointer (some a)))(hy:evR R y=some (.pointer (some a)))(ht:P.underlying t=some (.pointer pt))(hr':E.ty pt=some r)(h0:Nat.beq r.size 0=false):
  OpV P n H₀ R L o (.bool false):=fun H tmps _ hr=> by
 unfold execOp;rw[hop];simp only[hr.ev hx,hr.ev hy];show vwp P (((eqGuard .neq t x y (.pointer (some a)) (.pointer (some a))).bind fun _=> binOp .neq t (.pointer (some a)) (.pointer (some a))).bind _) H _;refine vwp_bind _ _ (vwp_bind _ _ ?_);show vwp P ((Op.equalIn (9999+1) t (.pointer (some a)) (.pointer (some a))).bind fun c=> Sem.pure (Value.bool (!c))) H _;refine vwp_bind _ _ ?_;unfold Op.equalIn;refine vwp_bind (underlying t) _ (vwp_underlying ht ?_);refine vwp_bind (sizeOf pt) _ (vwp_sizeOf (E.ok _ _ hr').size ?_);have h1:r.size≠0:=Nat.ne_of_beq_eq_false h0;show vwp P (if r.size≠0 then sameAddr a a else _) H _;rw[if_pos h1];have e:vwp P (sameAddr a a) H fun c H'=> c=true/\H'=H:=by
  unfold sameAddr;simp only[BEq.rfl,if_true];exact⟨rfl,rfl⟩
 refine vwp_mono _ ?_ e;rintro _ _ ⟨rfl,rfl⟩;exact⟨rfl,rfl⟩
def ixB(s:List UInt8)(c:UInt8):Int:=
 match (List.range s.length).find? fun i=> (ByteArray.mk ⟨s⟩)[i]! ==c with
 | some i=> (i:Nat)
 | none=> -1
theorem vwp_ixB {s:List UInt8}{c:Nat}{H:View}{Q:Value->View->Prop}(h:Q (.int .i64 (ixB s (UInt8.ofNat c))) H):vwp P (Extern.BytealgIndexByte.indexByte #[strV s,.int .u8 (c:Nat)]) H Q:=by
 show vwp P (match (List.range s.length).find? fun i=> (ByteArray.mk ⟨s⟩)[i]! ==((c:Nat):Int).toNat.toUInt8 with|some i=> Sem.pure (goInt i)|none=> Sem.pure (goInt (-1))) H Q;rw[Int.toNat_natCast];have e:c.toUInt8=UInt8.ofNat c:=rfl;rw[e];unfold ixB at h;split at h
 ·exact h
 ·exact h
end
end Go.RL
