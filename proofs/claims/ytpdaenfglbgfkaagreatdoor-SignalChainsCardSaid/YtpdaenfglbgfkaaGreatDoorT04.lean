/-
  Texts of the proofs over baudot/signal: S U A1 A2 A3 A4 A5 A6 A7 A8 A9 B1 B2 Wt2 Run Run2.
-/
import Derived.Test.YtpdaenfglbgfkaaGreatDoorT03
section
namespace Go.RL
open Go.Conc Go.Proofs Go.Proofs.YtpdaenfglbgfkaaGreatDoor
set_option maxRecDepth 10000
section
variable {M:Md Tryz.prog}{St:View→Goroutine→Prop}{n:Nat}{b:FB}{H₀:View}{cs:List Frame}{R:Rg}{L:Bl}{ds:List Deferred}{k:List Item}{dl:List (Option Tmp)}{l:List Oper}{o:Oper}{d:Nat}{v:Value}{K:Rg→Bl→Prop}{main:Bool}{sh:Shp}{J:Goroutine→Prop}
theorem OpV.mv {x:Operand}(hop:o.op=.move x:=by exact rfl)(hx:evR R x=some v:=by exact rfl):OpV Tryz.prog n H₀ R L o (v):=
 OpV.move hop hx
theorem OpV.sg {x:Operand}(hop:o.op=.assign x:=by exact rfl)(hx:evR R x=some v:=by exact rfl):OpV Tryz.prog n H₀ R L o (v):=
 OpV.assign hop hx
theorem OpV.pk {c x y:Operand}{t:Bool}(hop:o.op=.pick c x y:=by exact rfl)(hc:evR R c=some (.bool t):=by exact rfl)(hx:(match t with|true=> evR R x|false=> evR R y)=some v:=by exact rfl):OpV Tryz.prog n H₀ R L o (v):=
 OpV.pick hop hc hx
theorem OpV.et {x:Operand}{i:Nat}{vs:Array Value}(hop:o.op=.extract x i:=by exact rfl)(hx:evR R x=some (.tuple vs):=by exact rfl)(hv:vs[i]? =some v:=by exact rfl):OpV Tryz.prog n H₀ R L o (v):=
 OpV.extract hop hx hv
theorem OpV.nk {x:Operand}{a:Addr}(hop:o.op=.nilCheck x:=by exact rfl)(hx:evR R x=some (.pointer (some a)):=by exact rfl):OpV Tryz.prog n H₀ R L o (.pointer (some a)):=
 OpV.nilCheck hop hx
theorem OpV.fa {s:TypeId}{x:Operand}{fi o':Nat}{r:TyRow}{blk off:Nat}(hop:o.op=.fieldAddr s x fi:=by exact rfl)(hx:evR R x=some (.pointer (some ⟨blk,off,none⟩)):=by exact rfl)(ht:en.ty s=some r:=by exact rfl)(ho:r.offs[fi]? =some o':=by exact rfl):OpV Tryz.prog n H₀ R L o (.pointer (some ⟨blk,off+o',none⟩)):=
 OpV.fieldAddr (E:=en) hop hx ht ho
theorem OpV.mf {fn:Fn}{fs cp:Array Operand}{vf vc:List Value}(hop:o.op=.makeFunc fn fs cp:=by exact rfl)(h1:evRs R fs.toList=some vf:=by exact rfl)(h2:evRs R cp.toList=some vc:=by exact rfl):OpV Tryz.prog n H₀ R L o (.func fn vf.toArray vc.toArray):=
 OpV.makeFunc hop h1 h2
theorem OpV.bu {t:TypeId}{ps:Array (Nat×Operand)}{parts:List (Nat×Value)}{l:List Value}(hop:o.op=.build t ps:=by exact rfl)(hps:evPs R ps.toList=some parts:=by exact rfl)(hv:buildL en t parts=some l:=by exact rfl):OpV Tryz.prog n H₀ R L o (.agg ⟨l⟩):=
 OpV.build (E:=en) hop hps hv
theorem OpV.cv {t u:TypeId}{x:Operand}{ik jk:IntKind}{p z:Int}{r r':TyRow}(hop:o.op=.convert t u x:=by exact rfl)(hx:evR R x=some (.int ik p):=by exact rfl)(ht:en.ty t=some r:=by exact rfl)(hr:r.ds=.int ik:=by exact rfl)(ht':en.ty u=some r':=by exact rfl)(hr':r'.ds=.int jk:=by exact rfl)(hz:jk.wrap p=z:=by first|assumption|exact rfl):OpV Tryz.prog n H₀ R L o (.int jk z):=
 OpV.convE (E:=en) hop hx ht hr ht' hr' hz
theorem OpV.fd {t ft:TypeId}{x:Operand}{fi off sz:Nat}{r rf:TyRow}{c:List Value}{fs:List (TypeId×Nat×Nat)}(hop:o.op=.field t x fi:=by exact rfl)(hx:evR R x=some (.agg ⟨c⟩):=by exact rfl)(ht:en.ty t=some r:=by exact rfl)(hds:r.ds=.struct fs:=by exact rfl)(hf:fs[fi]? =some (ft,off,sz):=by exact rfl)(htf:en.ty ft=some rf:=by exact rfl)(hv:ldL rf.agg rf.size c off=some v:=by exact rfl):OpV Tryz.prog n H₀ R L o v:=
 OpV.field (E:=en) hop hx ht hds hf htf hv
theorem OpV.ld(i:Nat){t:TypeId}{x:Operand}{r:TyRow}{blk off:Nat}{f:Bool}{c:List Value}{e:TypeId}{fz:Nat×Nat}(hop:o.op=.load t x:=by exact rfl)(hx:evR R x=some (.pointer (some ⟨blk,off,none⟩)):=by exact rfl)(hi:L[i]? =some (blk,f,.cells ⟨c⟩ e fz):=by exact rfl)(ht:en.ty t=some r:=by exact rfl)(hv:ldL r.agg r.size c off=some v:=by first|exact rfl|assumption):OpV Tryz.prog n H₀ R L o (v):=
 OpV.load (E:=en) i hop hx hi ht hv
theorem OpV.l0 {t:TypeId}{x:Operand}{r:TyRow}{blk off:Nat}{f:Bool}{c:List Value}{e:TypeId}{fz:Nat×Nat}(hop:o.op=.load t x:=by exact rfl)(hx:evR R x=some (.pointer (some ⟨blk,off,none⟩)):=by exact rfl)(hi:H₀ blk=some (f,.cells ⟨c⟩ e fz):=by assumption)(ht:en.ty t=some r:=by first|exact rfl|assumption)(hv:ldL r.agg r.size c off=some v:=by first|exact rfl|assumption):OpV Tryz.prog n H₀ R L o (v):=
 OpV.load₀ (E:=en) hop hx hi ht hv
theorem OpV.ia {t:TypeId}{x y:Operand}{r re:TyRow}{et:TypeId}{blk off sz len cap:Nat}{ik:IntKind}{j:Int}(hop:o.op=.indexAddr t x y:=by exact rfl)(hx:evR R x=some (.slice (some ⟨blk,off,none⟩) len cap):=by exact rfl)(hy:evR R y=some (.int ik j):=by exact rfl)(ht:en.ty t=some r:=by exact rfl)(he:r.elem=some (none,et):=by exact rfl)(hre:en.ty et=some re:=by exact rfl)(hsz:re.size=sz:=by exact rfl)(h0:0≤j:=by omega)(h1:j<len:=by omega):OpV Tryz.prog n H₀ R L o (.pointer (some ⟨blk,off+j.toNat*sz,none⟩)):=
 OpV.indexAddr (E:=en) hop hx hy ht he hre hsz h0 h1
theorem OpV.ib {t:TypeId}{x y:Operand}{r re:TyRow}{et:TypeId}{blk off sz len:Nat}{ik:IntKind}{j:Int}(hop:o.op=.indexAddr t x y:=by exact rfl)(hx:evR R x=some (.pointer (some ⟨blk,off,none⟩)):=by exact rfl)(hy:evR R y=some (.int ik j):=by exact rfl)(ht:en.ty t=some r:=by exact rfl)(he:r.elem=some (some len,et):=by exact rfl)(hre:en.ty et=some re:=by exact rfl)(hsz:re.size=sz:=by exact rfl)(h0:0≤j:=by omega)(h1:j<len:=by omega):OpV Tryz.prog n H₀ R L o (.pointer (some ⟨blk,off+j.toNat*sz,none⟩)):=
 OpV.indexAddrA (E:=en) hop hx hy ht he hre hsz h0 h1
theorem OpV.ix {t:TypeId}{x y:Operand}{r re:TyRow}{et:TypeId}{len:Nat}{ik:IntKind}{j:Int}{c:List Value}(hop:o.op=.index t x y:=by exact rfl)(hx:evR R x=some (.agg ⟨c⟩):=by exact rfl)(hy:evR R y=some (.int ik j):=by exact rfl)(ht:en.ty t=some r:=by exact rfl)(he:r.elem=some (some len,et):=by exact rfl)(hre:en.ty et=some re:=by exact rfl)(h0:0≤j:=by omega)(h1:j<len:=by omega)(hv:ldL re.agg re.size c (j.toNat*re.size)=some v:=by exact rfl):OpV Tryz.prog n H₀ R L o (v):=
 OpV.index (E:=en) hop hx hy ht he hre h0 h1 hv
theorem OpV.it {op:BinOp}{t u:TypeId}{x y:Operand}{ik:IntKind}{p q:Int}(hop:o.op=.binOp op t x y u:=by exact rfl)(hx:evR R x=some (.int ik p):=by exact rfl)(hy:evR R y=some (.int ik q):=by exact rfl)(zz:intBin op ik p q=some v):OpV Tryz.prog n H₀ R L o (v):=
 OpV.int hop hx hy zz
theorem OpV.sf {op:BinOp}{t u:TypeId}{x y:Operand}{ik jk:IntKind}{p q:Int}(hop:o.op=.binOp op t x y u:=by exact rfl)(hx:evR R x=some (.int ik p):=by exact rfl)(hy:evR R y=some (.int jk q):=by exact rfl)(hq:0≤q:=by omega)(hv:shiftV op ik p q=some v:=by first|assumption|exact rfl):OpV Tryz.prog n H₀ R L o (v):=
 OpV.shift hop hx hy hq hv
theorem OpV.nt {t:TypeId}{x:Operand}{p:Bool}(hop:o.op=.unOp .not t x:=by exact rfl)(hx:evR R x=some (.bool p):=by exact rfl):OpV Tryz.prog n H₀ R L o (.bool (!p)):=
 OpV.not hop hx
theorem OpV.ng {t:TypeId}{x:Operand}{p z:Int}(hop:o.op=.unOp .neg t x:=by exact rfl)(hx:evR R x=some (.int .i64 p):=by exact rfl)(h1: -9223372036854775808≤ -p:=by omega)(h2: -p<9223372036854775808:=by omega)(hz: -p=z:=by exact rfl):OpV Tryz.prog n H₀ R L o (.int .i64 z):=
 OpV.neg hop hx h1 h2 hz
theorem OpV.ln {t:TypeId}{x:Operand}{a:Option Addr}{p q:Nat}{cl:Go.Call}{e:TypeId}{r:TyRow}(hop:o.op=.call cl:=by exact rfl)(hcl:cl.callee=.builtin .len:=by exact rfl)(hat:cl.argTypes=#[t]:=by exact rfl)(har:cl.args=#[x]:=by exact rfl)(hx:evR R x=some (.slice a p q):=by exact rfl)(ht:en.ty t=some r:=by exact rfl)(he:r.elem=some (none,e):=by exact rfl):OpV Tryz.prog n H₀ R L o (.int .i64 (p:Int)):=
 OpV.len (E:=en) hop hcl hat har hx ht he
theorem OpV.eb {t u:TypeId}{x y:Operand}{r:TyRow}{p q:Bool}(hop:o.op=.binOp .eql t x y u:=by exact rfl)(hx:evR R x=some (.bool p):=by exact rfl)(hy:evR R y=some (.bool q):=by exact rfl)(ht:en.ty t=some r:=by exact rfl)(hds:r.ds=.bool:=by exact rfl):OpV Tryz.prog n H₀ R L o (.bool (p==q)):=
 OpV.eqB (E:=en) hop hx hy ht hds
theorem OpV.nb {t u:TypeId}{x y:Operand}{r:TyRow}{p q:Bool}(hop:o.op=.binOp .neq t x y u:=by exact rfl)(hx:evR R x=some (.bool p):=by exact rfl)(hy:evR R y=some (.bool q):=by exact rfl)(ht:en.ty t=some r:=by exact rfl)(hds:r.ds=.bool:=by exact rfl):OpV Tryz.prog n H₀ R L o (.bool (!(p==q))):=
 OpV.neB (E:=en) hop hx hy ht hds
theorem OpP.mv {x:Operand}(hop:o.op=.move x:=by exact rfl)(hx:evR R x=some v:=by exact rfl):OpP Tryz.prog sh n R o v:=
 OpP.move hop hx
theorem OpP.sg {x:Operand}(hop:o.op=.assign x:=by exact rfl)(hx:evR R x=some v:=by exact rfl):OpP Tryz.prog sh n R o v:=
 OpP.assign hop hx
theorem OpP.pk {c x y:Operand}{u:Bool}(hop:o.op=.pick c x y:=by exact rfl)(hc:evR R c=some (.bool u):=by exact rfl)(hx:(match u with|true=> evR R x|false=> evR R y)=some v:=by exact rfl):OpP Tryz.prog sh n R o v:=
 OpP.pick hop hc hx
theorem OpP.nk {x:Operand}{a:Addr}(hop:o.op=.nilCheck x:=by exact rfl)(hx:evR R x=some (.pointer (some a)):=by exact rfl):OpP Tryz.prog sh n R o (.pointer (some a)):=
 OpP.nilCheck hop hx
theorem OpP.nt {u:TypeId}{x:Operand}{p:Bool}(hop:o.op=.unOp .not u x:=by exact rfl)(hx:evR R x=some (.bool p):=by exact rfl):OpP Tryz.prog sh n R o (.bool (!p)):=
 OpP.not hop hx
theorem OpP.it {op:BinOp}{u u':TypeId}{x y:Operand}{ik:IntKind}{p q:Int}(hop:o.op=.binOp op u x y u':=by exact rfl)(hx:evR R x=some (.int ik p):=by exact rfl)(hy:evR R y=some (.int ik q):=by exact rfl)(zz:intBin op ik p q=some v):OpP Tryz.prog sh n R o v:=
 OpP.int hop hx hy zz
theorem OpP.fa {s:TypeId}{x:Operand}{fi o':Nat}{blk off:Nat}(hop:o.op=.fieldAddr s x fi:=by exact rfl)(hx:evR R x=some (.pointer (some ⟨blk,off,none⟩)):=by exact rfl)(zz:fldOff Tryz.prog s fi=some o'):OpP Tryz.prog sh n R o (.pointer (some ⟨blk,off+o',none⟩)):=
 OpP.field hop hx zz
theorem Or.bx {e:TypeId}{x:Operand}(hop:o.op=.box e x:=by exact rfl)(hd:o.dst=some d:=by exact rfl)(hn:d<n:=by decide)(hx:evR R x=some v:=by exact rfl)(zz:∀blk,K ((d,.pointer (some ⟨blk,0,none⟩))::R) ((blk,true,.cells ⟨v.cells.toList⟩ e (0,0))::L)):Or M n H₀ R L o K:=
 Or.box hop hd hn hx zz
theorem Or.al {e:TypeId}{r:TyRow}(hop:o.op=.alloc e:=by exact rfl)(ht:en.ty e=some r:=by exact rfl)(hd:o.dst=some d:=by exact rfl)(hn:d<n:=by decide)(zz:∀blk,K ((d,.pointer (some ⟨blk,0,none⟩))::R) ((blk,true,.cells ⟨r.zero.cells.toList⟩ e (0,0))::L)):Or M n H₀ R L o K:=
 Or.alloc (E:=en) hop ht hd hn zz
theorem Or.bs {t e:TypeId}{len:Nat}{ps:Array (Nat×Operand)}{parts:List (Nat×Value)}{r re:TyRow}{l:List Value}(hop:o.op=.buildSlice t len ps:=by exact rfl)(hps:evPs R ps.toList=some parts:=by exact rfl)(ht:en.ty t=some r:=by exact rfl)(hds:r.ds=.slice e:=by exact rfl)(hre:en.ty e=some re:=by exact rfl)(hsz:Nat.ble (len*re.size) 16777216=true:=by exact rfl)(hv:fillL (fun i=> some (i*re.size,re.size)) (zeroRow re.zero.cells.toList (len*re.size)) parts=some l:=by exact rfl)(hd:o.dst=some d:=by exact rfl)(hn:d<n:=by decide)(zz:∀blk,K ((d,.slice (some ⟨blk,0,none⟩) len len)::R) ((blk,true,.cells ⟨l⟩ e (0,0))::L)):Or M n H₀ R L o K:=
 Or.buildSlice (E:=en) hop hps ht hds hre hsz hv hd hn zz
theorem Or.st(i:Nat){t:TypeId}{x y:Operand}{r:TyRow}{blk off:Nat}{c c':List Value}{e:TypeId}(hop:o.op=.store t x y:=by exact rfl)(hx:evR R x=some (.pointer (some ⟨blk,off,none⟩)):=by exact rfl)(hy:evR R y=some v:=by exact rfl)(hi:L[i]? =some (blk,true,.cells ⟨c⟩ e (0,0)):=by exact rfl)(ht:en.ty t=some r:=by exact rfl)(hz:Nat.beq v.cells.toList.length r.size=true:=by exact rfl)(h0:Nat.beq r.size 0=false:=by exact rfl)(hl:Nat.ble (off+r.size) c.length=true:=by first|exact rfl|assumption)(hs:v.cells.toList.all single=true:=by exact rfl)(hd:o.dst=none:=by exact rfl)(hc:stL c off v.cells.toList=c':=by first|assumption|exact rfl)(zz:K R (L.set i (blk,true,.cells ⟨c'⟩ e (0,0)))):Or M n H₀ R L o K:=
 Or.storeT (E:=en) i hop hx hy hi ht hz h0 hl hs hd hc zz
theorem To.x(h:OpV Tryz.prog n H₀ R L o v)(kk:To M St n b H₀ cs dl ((d,v)::R) L ds l k)(h1:wantB dl R o=some true:=by exact rfl)(h2:isDefer o.op=false:=by exact rfl)(h3:o.dst=some d:=by exact rfl)(h4:d<n:=by decide):To M St n b H₀ cs dl R L ds (o::l) k:=To.op h1 h2 (Or.ofV h h3 h4 kk)
theorem To.e(h:Or M n H₀ R L o fun R' L'=> To M St n b H₀ cs dl R' L' ds l k)(h1:wantB dl R o=some true:=by exact rfl)(h2:isDefer o.op=false:=by exact rfl):To M St n b H₀ cs dl R L ds (o::l) k:=To.op h1 h2 h
theorem To.c {cl:Go.Call}{x:Operand}{fv:Value}{az:List Value}(hop:o.op=.call cl)(hcl:cl.callee=.value x)(hx:evR R x=some fv)(has:evRs R cl.args.toList=some az)(hc:∀H,SymSt H₀ L H→FnT M fv az H fun u H'=> H.le H'∧u=v)(kk:To M St n b H₀ cs dl ((d,v)::R) L ds l k)(h1:wantB dl R o=some true:=by exact rfl)(h2:isDefer o.op=false:=by exact rfl)(h3:o.dst=some d:=by exact rfl)(h4:d<n:=by decide):To M St n b H₀ cs dl R L ds (o::l) k:=To.op h1 h2 (Or.ofT (OpV.takeCall hop hcl hx has hc) h3 h4 kk)
theorem To.sk(kk:To M St n b H₀ cs dl ((d,undef)::R) L ds l k)(h3:o.dst=some d:=by exact rfl)(h4:d<n:=by decide)(h1:wantB dl R o=some false:=by exact rfl):To M St n b H₀ cs dl R L ds (o::l) k:=To.skipped h3 h4 h1 kk
theorem Tc.tt {c:Operand}{x y:Code}(hc:evR R c=some (.bool true))(h:Tc M St n b H₀ cs R L ds (.code x::k)):Tc M St n b H₀ cs R L ds (.code (.cond c x y)::k):=Tc.cond (t:=true) hc (fun _=> h) (fun h=> nomatch h)
theorem Tc.ff {c:Operand}{x y:Code}(hc:evR R c=some (.bool false))(h:Tc M St n b H₀ cs R L ds (.code y::k)):Tc M St n b H₀ cs R L ds (.code (.cond c x y)::k):=Tc.cond (t:=false) hc (fun h=> nomatch h) (fun _=> h)
theorem FnT.f {g:FuncId}{az:List Value}{as':Array Value}{H:View}{Q:Value→View→Prop}(hg:callable Tryz.prog g=true)(hall:([]++az++[]).toArray=as')(h:CallT M g as' H Q):FnT M (.func (.func g) #[] #[]) az H Q:=FnT.of (first:= []) (captured:= []) hg hall h
theorem So.x {dl:List (Option Tmp)}{l:List Oper}(hp:OpP Tryz.prog sh n R o v)(h:So J n b cs dl ((d,v)::R) ds l k)(hc:Cl Tryz.prog main sh J:=by first|exact Jm.cl|exact Jw.clX rfl|exact Jw.cl0|exact Jq.cl|exact hc)(hdst:o.dst=some d:=by exact rfl)(hn:Nat.blt d n=true:=by exact rfl)(hw:wantB dl R o=some true:=by exact rfl)(hdf:isDefer o.op=false:=by exact rfl):So J n b cs dl R ds (o::l) k:=So.opD hc hdst hn hw hdf hp h
theorem So.sk {dl:List (Option Tmp)}{l:List Oper}(h:So J n b cs dl ((d,undef)::R) ds l k)(hc:Cl Tryz.prog main sh J:=by first|exact Jm.cl|exact Jw.clX rfl|exact Jw.cl0|exact Jq.cl|exact hc)(hdst:o.dst=some d:=by exact rfl)(hn:Nat.blt d n=true:=by exact rfl)(hw:wantB dl R o=some false:=by exact rfl):So J n b cs dl R ds (o::l) k:=So.skippedD hc hdst hn hw h
theorem Sc.rg {id:Nat}{ops:Array Oper}{dl:List (Option Tmp)}{l:List Oper}(hl:ops.toList=l)(hdl:l.map (fun o:Oper=> o.dst)=dl)(h:So J n b cs dl R ds l k)(hc:Cl Tryz.prog main sh J:=by first|exact Jm.cl|exact Jw.clX rfl|exact Jw.cl0|exact Jq.cl|exact hc):Sc J n b cs R ds (.code (.region id ops false)::k):=Sc.region hc hl hdl h
theorem So.dn {dl:List (Option Tmp)}(h:Sc J n b cs R ds k)(hc:Cl Tryz.prog main sh J:=by first|exact Jm.cl|exact Jw.clX rfl|exact Jw.cl0|exact Jq.cl|exact hc):So J n b cs dl R ds [] k:=So.done hc h
theorem Sc.sq {x y:Code}(h:Sc J n b cs R ds (.code x:: .code y::k))(hc:Cl Tryz.prog main sh J:=by first|exact Jm.cl|exact Jw.clX rfl|exact Jw.cl0|exact Jq.cl|exact hc):Sc J n b cs R ds (.code (.seq x y)::k):=Sc.seq hc h
theorem Sc.sp(h:Sc J n b cs R ds k)(hc:Cl Tryz.prog main sh J:=by first|exact Jm.cl|exact Jw.clX rfl|exact Jw.cl0|exact Jq.cl|exact hc):Sc J n b cs R ds (.code .skip::k):=Sc.skip hc h
theorem Sc.bl {id:Nat}{c:Code}(h:Sc J n b cs R ds (.code c:: .inBlock id::k))(hc:Cl Tryz.prog main sh J:=by first|exact Jm.cl|exact Jw.clX rfl|exact Jw.cl0|exact Jq.cl|exact hc):Sc J n b cs R ds (.code (.block id c)::k):=Sc.block hc h
theorem Sc.ib {id:Nat}(h:Sc J n b cs R ds k)(hc:Cl Tryz.prog main sh J:=by first|exact Jm.cl|exact Jw.clX rfl|exact Jw.cl0|exact Jq.cl|exact hc):Sc J n b cs R ds (.inBlock id::k):=Sc.inBlock hc h
theorem Sc.xt {id:Nat}{k':List Item}(he:exitTo id k=some k')(h:Sc J n b cs R ds k')(hc:Cl Tryz.prog main sh J:=by first|exact Jm.cl|exact Jw.clX rfl|exact Jw.cl0|exact Jq.cl|exact hc):Sc J n b cs R ds (.code (.exit id)::k):=Sc.exit hc he h
theorem Sc.tt {c:Operand}{x y:Code}(hx:evR R c=some (.bool true))(h:Sc J n b cs R ds (.code x::k))(hc:Cl Tryz.prog main sh J:=by first|exact Jm.cl|exact Jw.clX rfl|exact Jw.cl0|exact Jq.cl|exact hc):Sc J n b cs R ds (.code (.cond c x y)::k):=Sc.cond hc (t:=true) hx (fun _=> h) (fun h=> nomatch h)
theorem Sc.ff {c:Operand}{x y:Code}(hx:evR R c=some (.bool false))(h:Sc J n b cs R ds (.code y::k))(hc:Cl Tryz.prog main sh J:=by first|exact Jm.cl|exact Jw.clX rfl|exact Jw.cl0|exact Jq.cl|exact hc):Sc J n b cs R ds (.code (.cond c x y)::k):=Sc.cond hc (t:=false) hx (fun h=> nomatch h) (fun _=> h)
end
section
variable {M:Md Tryz.prog}{St:View→Goroutine→Prop}{n:Nat}{b:FB}{H₀:View}{cs:List Frame}{R:Rg}{L L₁:Bl}{ds:List Deferred}{k:List Item}{md:Region.Mode}{ops:Array Oper}{fuel:Nat}{listed:Array Bool}{B:List Nat}{Ls:Bl}{o:Oper}{d:Nat}{v:Value}
theorem Ta.q(i:Nat)(hi:ops[i]? =some o)(hv:OpV Tryz.prog n H₀ R L o v)(h:Ta M St n b H₀ cs (S2 H₀ B Ls L) md ops fuel (listed.setIfInBounds i true) ((d,v)::R) L₁ ds k)(hc:takeOk md ops B listed i=true:=by kernel_rfl)(hd:o.dst=some d:=by exact rfl)(hn:d<n:=by decide)(hnd:isDefer o.op=false:=by exact rfl)(hw:wantB (ops.toList.map (fun o:Oper=> o.dst)) R o=some true:=by exact rfl):
   Ta M St n b H₀ cs (S2 H₀ B Ls L) md ops (fuel+1) listed R L₁ ds k:=Ta.tk i hc hi hd hn hnd hw (OpV.take hv) h
end
end Go.RL
end
section
namespace Go.RL
open Go.Conc Go.Proofs Go.Proofs.YtpdaenfglbgfkaaGreatDoor
set_option maxRecDepth 10000
section
variable {M:Md Tryz.prog}{St:View→Goroutine→Prop}{n:Nat}{b:FB}{H₀:View}{cs:List Frame}{R:Rg}{L:Bl}{ds:List Deferred}{k:List Item}{dl:List (Option Tmp)}{l:List Oper}{o:Oper}{d:Nat}{v:Value}{main:Bool}{sh:Shp}{J:Goroutine→Prop}
theorem To.m {x:Operand}(kk:To M St n b H₀ cs dl ((d,v)::R) L ds l k)(hop:o.op=.move x:=by exact rfl)(hx:evR R x=some v:=by exact rfl)(h1:wantB dl R o=some true:=by exact rfl)(h2:isDefer o.op=false:=by exact rfl)(h3:o.dst=some d:=by exact rfl)(h4:d<n:=by decide):To M St n b H₀ cs dl R L ds (o::l) k:=To.op h1 h2 (Or.ofV (OpV.move hop hx) h3 h4 kk)
theorem To.g {x:Operand}(kk:To M St n b H₀ cs dl ((d,v)::R) L ds l k)(hop:o.op=.assign x:=by exact rfl)(hx:evR R x=some v:=by exact rfl)(h1:wantB dl R o=some true:=by exact rfl)(h2:isDefer o.op=false:=by exact rfl)(h3:o.dst=some d:=by exact rfl)(h4:d<n:=by decide):To M St n b H₀ cs dl R L ds (o::l) k:=To.op h1 h2 (Or.ofV (OpV.assign hop hx) h3 h4 kk)
theorem To.i {op:BinOp}{t u:TypeId}{x y:Operand}{ik:IntKind}{p q:Int}(kk:To M St n b H₀ cs dl ((d,v)::R) L ds l k)(hop:o.op=.binOp op t x y u:=by exact rfl)(hx:evR R x=some (.int ik p):=by exact rfl)(hy:evR R y=some (.int ik q):=by exact rfl)(h1:wantB dl R o=some true:=by exact rfl)(h2:isDefer o.op=false:=by exact rfl)(h3:o.dst=some d:=by exact rfl)(h4:d<n:=by decide)(z:intBin op ik p q=some v):To M St n b H₀ cs dl R L ds (o::l) k:=To.op h1 h2 (Or.ofV (OpV.int hop hx hy z) h3 h4 kk)
theorem Tc.r {id:Nat}{ops:Array Oper}(h:To M St n b H₀ cs dl R L ds l k)(hl:ops.toList=l:=by exact rfl)(hdl:l.map (fun o:Oper=> o.dst)=dl:=by exact rfl):Tc M St n b H₀ cs R L ds (.code (.region id ops false)::k):=Tc.region hl hdl h
theorem Tc.sr {id:Nat}{ops:Array Oper}{y:Code}(h:To M St n b H₀ cs dl R L ds l (.code y::k))(hl:ops.toList=l:=by exact rfl)(hdl:l.map (fun o:Oper=> o.dst)=dl:=by exact rfl):Tc M St n b H₀ cs R L ds (.code (.seq (.region id ops false) y)::k):=Tc.seq (Tc.region hl hdl h)
theorem Tc.db {L':Bl}{todo:List Item}{R':Rg}(h:Tc M St n b H₀ cs R' L' ds todo)(hR:AllIn R' R:=by repeat (first|exact trivial|refine⟨rfl,?_⟩))(hL:L'.Sublist L:=by repeat (first|exact List.Sublist.refl _|exact List.nil_sublist _|exact List.sublist_append_left _ _|apply List.Sublist.cons_cons|apply List.Sublist.cons)):Tc M St n b H₀ cs R L ds todo:=Tc.dropB h hR hL
theorem Tc.rt {fn:Func}{c:Frame}{Q:Value→View→Prop}{f:FuncId}{rs:List ResultVar}(hK:∀v H',Q v H'→T M St H' (G (c.finish v) cs))(hf:Tryz.prog.funcs[f]? =some fn)(hrs:fn.results=rs.toArray)(vs:List Value)(h:∀H',SymSt H₀ L H'→Q (packV vs) H')
   (ho:ResOk en R L rs vs:=by repeat (first|exact trivial|refine⟨rfl,?_⟩)):Tc M St n ⟨f,.normal,none⟩ H₀ (c::cs) R L [] (.code .ret::k):=Tc.retN (E:=en) hK hf hrs ho h
theorem Ta.z(i:Nat){md:Region.Mode}{ops:Array Oper}{B:List Nat}{Ls L₁:Bl}{fuel:Nat}{listed:Array Bool}(hi:ops[i]? =some o)
   (hv:∀H tmps,SymSt H₀ L H→RegOk n R tmps→OpVal M o tmps H fun u H'=> u=v∧H.le H')
   (h:Ta M St n b H₀ cs (S2 H₀ B Ls L) md ops fuel (listed.setIfInBounds i true) ((d,v)::R) L₁ ds k) (hc:takeOk md ops B listed i=true:=by kernel_rfl) (hd:o.dst=some d:=by exact rfl) (hn:d<n:=by decide) (hnd:isDefer o.op=false:=by exact rfl) (hw:wantB (ops.toList.map (fun o:Oper=> o.dst)) R o=some true:=by exact rfl):
   Ta M St n b H₀ cs (S2 H₀ B Ls L) md ops (fuel+1) listed R L₁ ds k:=Ta.tk i hc hi hd hn hnd hw hv h
theorem So.m {x:Operand}(h:So J n b cs dl ((d,v)::R) ds l k)(hop:o.op=.move x:=by exact rfl)(hx:evR R x=some v:=by exact rfl)(hc:Cl Tryz.prog main sh J:=by first|exact Jm.cl|exact Jw.clX rfl|exact Jw.cl0|exact Jq.cl|exact hc)(hdst:o.dst=some d:=by exact rfl)(hn:Nat.blt d n=true:=by exact rfl)(hw:wantB dl R o=some true:=by exact rfl)(hdf:isDefer o.op=false:=by exact rfl):So J n b cs dl R ds (o::l) k:=So.opD hc hdst hn hw hdf (sh:=sh) (OpP.move hop hx) h
theorem So.g {x:Operand}(h:So J n b cs dl ((d,v)::R) ds l k)(hop:o.op=.assign x:=by exact rfl)(hx:evR R x=some v:=by exact rfl)(hc:Cl Tryz.prog main sh J:=by first|exact Jm.cl|exact Jw.clX rfl|exact Jw.cl0|exact Jq.cl|exact hc)(hdst:o.dst=some d:=by exact rfl)(hn:Nat.blt d n=true:=by exact rfl)(hw:wantB dl R o=some true:=by exact rfl)(hdf:isDefer o.op=false:=by exact rfl):So J n b cs dl R ds (o::l) k:=So.opD hc hdst hn hw hdf (sh:=sh) (OpP.assign hop hx) h
theorem So.i {op:BinOp}{u u':TypeId}{x y:Operand}{ik:IntKind}{p q:Int}(h:So J n b cs dl ((d,v)::R) ds l k)(hop:o.op=.binOp op u x y u':=by exact rfl)(hx:evR R x=some (.int ik p):=by exact rfl)(hy:evR R y=some (.int ik q):=by exact rfl)(hc:Cl Tryz.prog main sh J:=by first|exact Jm.cl|exact Jw.clX rfl|exact Jw.cl0|exact Jq.cl|exact hc)(hdst:o.dst=some d:=by exact rfl)(hn:Nat.blt d n=true:=by exact rfl)(hw:wantB dl R o=some true:=by exact rfl)(hdf:isDefer o.op=false:=by exact rfl)(z:intBin op ik p q=some v):So J n b cs dl R ds (o::l) k:=So.opD hc hdst hn hw hdf (sh:=sh) (OpP.int hop hx hy z) h
end
theorem CallT.is {P:Program}{M:Md P}{f:FuncId}{az:Array Value}{H:View}{w:Value}(w':Value)(e:w=w')(h:CallT M f az H fun v H'=> H.le H'∧v=w):CallT M f az H fun v H'=> H.le H'∧v=w':=e▸h
end Go.RL
end
section
namespace Go.Proofs.YtpdaenfglbgfkaaGreatDoor
open Go.RL
set_option maxRecDepth 10000
def bandV(a b:Int):Value:=.agg ⟨[.int .i64 a,.int .i64 b]⟩
section
variable(M:Md Tryz.prog)(H:View)
theorem within_c(a b low high many:Int)(h1: -1000000000≤low)(h2:high≤1000000000):
   CallT M 168 #[bandV a b,.int .i64 low,.int .i64 high,.int .i64 many] H (fun v H'=> H.le H'∧v=.bool (decide (low≤a∧a≤b∧b≤high∧b-a<many))):=by
 refine CallT.enter (vs:= [bandV a b,.int .i64 low,.int .i64 high,.int .i64 many]) Tryz.func168 rfl Tryz.ntmps168 (Nat.le_of_ble_eq_true rfl) (SymSt.nil _) fun St c cs hK=> ?_
 by_cases c1:low≤a
 all_goals by_cases c2:a≤b
 all_goals by_cases c3:b≤high
 all_goals by_cases c4:b-a<many
 all_goals
   refine .sr ?_
   refine .e (.bx (zz:=fun b1=> ?_))
   refine .g ?_
   refine .done (.sr ?_)
   refine .m ?_
   refine .x .fa ?_
   refine .x (.ld 0) ?_
   refine .i ?_ (z:=by first|exact leq_t (by omega)|exact leq_f (by omega))
   refine .m ?_
   first|(refine .sk ?_)|(refine .x .fa ?_)
   first|(refine .sk ?_)|((refine .x (.ld 0) ?_))
   first|(refine .sk ?_)|(refine .x .fa ?_)
   first|(refine .sk ?_)|((refine .x (.ld 0) ?_))
   first|(refine .sk ?_)|(refine .x (.it (zz:=(by first|exact leq_t (by omega)|exact leq_f (by omega)))) ?_)
   refine .x .pk ?_
   refine .m ?_
   first|(refine .sk ?_)|(refine .x .fa ?_)
   first|(refine .sk ?_)|((refine .x (.ld 0) ?_))
   first|(refine .sk ?_)|(refine .m ?_)
   first|(refine .sk ?_)|(refine .x (.it (zz:=(by first|exact leq_t (by omega)|exact leq_f (by omega)))) ?_)
   refine .x .pk ?_
   refine .m ?_
   first|(refine .sk ?_)|(refine .x .fa ?_)
   first|(refine .sk ?_)|((refine .x (.ld 0) ?_))
   first|(refine .sk ?_)|(refine .x .fa ?_)
   first|(refine .sk ?_)|((refine .x (.ld 0) ?_))
   first|(refine .sk ?_)|(refine .x (.it (zz:=sub_in (by omega) (by omega))) ?_)
   first|(refine .sk ?_)|(refine .m ?_)
   first|(refine .sk ?_)|(refine .x (.it (zz:=(by first|exact lss_t (by omega)|exact lss_f (by omega)))) ?_)
   refine .x .pk ?_
   refine .g ?_
   refine .done ?_
   refine .rt hK Tryz.func168 Tryz.results168 [_] ?_
   exact fun H' hs=> ⟨hs.base,by simp[packV,c1,c2,c3,c4] <;> omega⟩
theorem has_c(a b x:Int):CallT M 169 #[bandV a b,.int .i64 x] H (fun v H'=> H.le H'∧v=.bool (decide (a≤x∧x≤b))):=by
 refine CallT.enter (vs:= [bandV a b,.int .i64 x]) Tryz.func169 rfl Tryz.ntmps169 (Nat.le_of_ble_eq_true rfl) (SymSt.nil _) fun St c cs hK=> ?_
 by_cases c1:a≤x
 all_goals by_cases c2:x≤b
 all_goals
   refine .sr ?_
   refine .e (.bx (zz:=fun b1=> ?_))
   refine .g ?_
   refine .done (.sr ?_)
   refine .x .fa ?_
   refine .x (.ld 0) ?_
   refine .m ?_
   refine .i ?_ (z:=by first|exact leq_t (by omega)|exact leq_f (by omega))
   refine .m ?_
   first|(refine .sk ?_)|(refine .m ?_)
   first|(refine .sk ?_)|(refine .x .fa ?_)
   first|(refine .sk ?_)|((refine .x (.ld 0) ?_))
   first|(refine .sk ?_)|(refine .x (.it (zz:=(by first|exact leq_t (by omega)|exact leq_f (by omega)))) ?_)
   refine .x .pk ?_
   refine .g ?_
   refine .done ?_
   refine .rt hK Tryz.func169 Tryz.results169 [_] ?_
   exact fun H' hs=> ⟨hs.base,by simp[packV,c1,c2] <;> omega⟩
theorem bandOf_c(a b:Int):CallT M 155 #[bandV a b] H (fun v H'=> H.le H'∧v=bandV a b):=by
 refine CallT.enter (vs:= [bandV a b]) Tryz.func155 rfl Tryz.ntmps155 (Nat.le_of_ble_eq_true rfl) (SymSt.nil _) fun St c cs hK=> ?_
 refine .sr ?_
 refine .e (.bx (zz:=fun b1=> ?_))
 refine .e (.al (zz:=fun b2=> ?_))
 refine .done (.sr ?_)
 refine .x .fa ?_
 refine .x (.ld 1) ?_
 refine .x .fa ?_
 refine .x (.ld 1) ?_
 refine .x .bu ?_
 refine .e (.st 0 (zz:=?_))
 refine .done ?_
 refine Tc.retN (E:=en) hK Tryz.func155 Tryz.results155 (vs:= [_]) (by refine⟨⟨0,_,_,_,_,_,_,_,rfl,rfl,rfl,rfl⟩,?_⟩;exact trivial) ?_
 exact fun H' hs=> ⟨hs.base,rfl⟩
theorem isCode_c(x:Int):CallT M 141 #[.int .i64 x] H (fun v H'=> H.le H'∧v=.bool (decide (0≤x∧x≤31))):=by
 refine CallT.enter (vs:= [.int .i64 x]) Tryz.func141 rfl Tryz.ntmps141 (Nat.le_of_ble_eq_true rfl) (SymSt.nil _) fun St c cs hK=> ?_
 by_cases c1:0≤x
 all_goals by_cases c2:x≤31
 all_goals
   refine .sr ?_
   refine .g ?_
   refine .done (.sr ?_)
   refine .m ?_
   refine .i ?_ (z:=by first|exact geq_t (by omega)|exact geq_f (by omega))
   refine .m ?_
   first|(refine .sk ?_)|(refine .m ?_)
   first|(refine .sk ?_)|(refine .x (.it (zz:=(by first|exact leq_t (by omega)|exact leq_f (by omega)))) ?_)
   refine .x .pk ?_
   refine .g ?_
   refine .done ?_
   refine .rt hK Tryz.func141 Tryz.results141 [_] ?_
   exact fun H' hs=> ⟨hs.base,by simp[packV,c1,c2] <;> omega⟩
def missedGo(pace after:Int):Nat→Int→Int
 | 0,n=> n
 | f+1,n=> if(2*n+1)*pace<after then missedGo pace after f (n+1) else n
def missedF(pace after:Int):Int:=missedGo pace after 7 0
theorem missed_c(pace after:Int)(h1:0≤pace)(h2:pace≤1000000):CallT M 139 #[.int .i64 pace,.int .i64 after] H (fun v H'=> H.le H'∧v=.int .i64 (missedF pace after)):=by
 refine CallT.enter (vs:= [.int .i64 pace,.int .i64 after]) Tryz.func139 rfl Tryz.ntmps139 (Nat.le_of_ble_eq_true rfl) (SymSt.nil _) fun St c cs hK=> ?_
 refine .sr ?_
 refine .g ?_
 refine .done (.sr ?_)
 refine .g ?_
 refine .done (.seq (.block ?_))
 refine Tc.dropR (R':= [(5,.int .i64 0),(0,.int .i64 pace),(1,.int .i64 after)]) ⟨rfl,rfl,rfl,trivial⟩ ?_
 refine Tc.loopInv (σ:= { s:Int×Nat//0≤s.1∧s.1+s.2=7∧missedGo pace after s.2 s.1=missedF pace after })
   (fun s=> ([(5,.int .i64 s.1.1),(0,.int .i64 pace),(1,.int .i64 after)],[])) (fun s=> s.1.2) ?_ ⟨(0,7),by simp,by simp,rfl⟩
 rintro⟨⟨s,f⟩,g1,g2,g3⟩ ih
 simp only at g1 g2 g3
 have m1:0≤(2*s+1)*pace:=Int.mul_nonneg (by omega) h1
 have m2:(2*s+1)*pace≤15*1000000:=Int.mul_le_mul (by omega) h2 h1 (by omega)
 show Tc M St _ _ _ _ [(5,.int .i64 s),(0,.int .i64 pace),(1,.int .i64 after)] [] _ _
 match f,g2,g3,ih with
 | 0,g2,g3,_=>
   refine .seq (.sr ?_)
   refine .m ?_
   refine .i ?_ (z:=lss_f (by omega))
   refine .m ?_
   refine .sk ?_
   refine .sk ?_
   refine .sk ?_
   refine .sk ?_
   refine .sk ?_
   refine .sk ?_
   refine .sk ?_
   refine .x .pk ?_
   refine .done (.ff rfl (.exit rfl (.sr ?_)))
   refine .m ?_
   refine .g ?_
   refine .done ?_
   refine .rt hK Tryz.func139 Tryz.results139 [_] ?_
   exact fun H' hs=> ⟨hs.base,by simp only[packV];rw[←g3];rfl⟩
 | f + 1,g2,g3,ih=>
   simp only[missedGo] at g3
   by_cases c:(2*s+1)*pace<after
   · rw[if_pos c] at g3
     refine .seq (.sr ?_)
     refine .m ?_
     refine .i ?_ (z:=lss_t (by omega))
     refine .m ?_
     refine .m ?_
     refine .i ?_ (z:=mul_in (by omega) (by omega))
     refine .i ?_ (z:=add_in (by omega) (by omega))
     refine .m ?_
     refine .i ?_ (z:=mul_in (by omega) (by omega))
     refine .m ?_
     refine .i ?_ (z:=lss_t (by omega))
     refine .x .pk ?_
     refine .done (.tt rfl (.skip (.block (.r ?_))))
     refine .m ?_
     refine .i ?_ (z:=add_in (by omega) (by omega))
     refine .g ?_
     refine .done (.inBlock ?_)
     exact Tc.db (ih ⟨(s+1,f),by simp only;omega,by simp only;omega,g3⟩ (by simp))
   · rw[if_neg c] at g3
     refine .seq (.sr ?_)
     refine .m ?_
     refine .i ?_ (z:=lss_t (by omega))
     refine .m ?_
     refine .m ?_
     refine .i ?_ (z:=mul_in (by omega) (by omega))
     refine .i ?_ (z:=add_in (by omega) (by omega))
     refine .m ?_
     refine .i ?_ (z:=mul_in (by omega) (by omega))
     refine .m ?_
     refine .i ?_ (z:=lss_f (by omega))
     refine .x .pk ?_
     refine .done (.ff rfl (.exit rfl (.sr ?_)))
     refine .m ?_
     refine .g ?_
     refine .done ?_
     refine .rt hK Tryz.func139 Tryz.results139 [_] ?_
     exact fun H' hs=> ⟨hs.base,by simp only[packV];rw[←g3]⟩
end
end Go.Proofs.YtpdaenfglbgfkaaGreatDoor
end
section
namespace Go.Proofs.YtpdaenfglbgfkaaGreatDoor
open Go.RL
set_option maxRecDepth 10000
def elementN(code place:Nat):Nat:=if place=0 then 0 else if place=6 then 1 else code/2 ^ (place-1)%2
def turnedN(v first:Nat):Nat:=v ^^^ (128-2 ^ first)
def readN(v:Nat):Option Nat:=if v%2=0∧v/64%2=1 then some (v/2%32) else none
theorem element_bits:∀c:Nat,c<32→∀p:Nat,p<7→p≠0→p≠6→bitI .and .i64 (Int.fdiv (c:Int) (2 ^ (min ((p:Int)-1).toNat 64))) 1=(elementN c p:Nat):=by decide +kernel
theorem turned_bits:∀v:Nat,v<128→∀f:Nat,f<8→bitI .xor .u8 (v:Int) (bitI .andNot .u8 127 (IntKind.u8.wrap (IntKind.u8.wrap (1*2 ^ (min (f:Int).toNat 8))-1)))=(turnedN v f:Nat):=by decide +kernel
theorem and1_bits:∀v:Nat,v<128→bitI .and .u8 (v:Int) 1=((v%2:Nat):Int):=by decide +kernel
theorem and31_bits:∀v:Nat,v<128→bitI .and .u8 (v:Int) 31=((v%32:Nat):Int):=by decide +kernel
theorem shr_bits:∀v:Nat,v<128→∀k:Nat,k<7→Int.fdiv (v:Int) (2 ^ (min (k:Int).toNat 8))=((v/2 ^ k:Nat):Int):=by decide +kernel
section
variable(M:Md Tryz.prog)(H:View)
theorem element_c(code place:Nat)(h1:code<32)(h2:place<7):CallT M 151 #[.int .i64 code,.int .i64 place] H (fun v H'=> H.le H'∧v=.int .i64 (elementN code place:Nat)):=by
 refine CallT.enter (vs:= [.int .i64 code,.int .i64 place]) Tryz.func151 rfl Tryz.ntmps151 (Nat.le_of_ble_eq_true rfl) (SymSt.nil _) fun St c cs hK=> ?_
 by_cases c1:place=0
 · subst c1
   refine .sr ?_
   refine .g ?_
   refine .done (.seq (.sr ?_))
   refine .m ?_
   refine .done (.block (.sr ?_))
   refine .i ?_ (z:=eql_t (by omega))
   refine .g ?_
   refine .done (.tt rfl (.sr ?_))
   refine .g ?_
   refine .done ?_
   refine .rt hK Tryz.func151 Tryz.results151 [_] ?_
   exact fun H' hs=> ⟨hs.base,rfl⟩
 · by_cases c2:place=6
   · subst c2
     refine .sr ?_
     refine .g ?_
     refine .done (.seq (.sr ?_))
     refine .m ?_
     refine .done (.block (.sr ?_))
     refine .i ?_ (z:=eql_f (by omega))
     refine .g ?_
     refine .done (.ff rfl (.sr ?_))
     refine .i ?_ (z:=eql_t (by omega))
     refine .g ?_
     refine .done (.tt rfl (.sr ?_))
     refine .g ?_
     refine .done ?_
     refine .rt hK Tryz.func151 Tryz.results151 [_] ?_
     exact fun H' hs=> ⟨hs.base,rfl⟩
   · have hb:=element_bits code h1 place h2 c1 c2
     refine .sr ?_
     refine .g ?_
     refine .done (.seq (.sr ?_))
     refine .m ?_
     refine .done (.block (.sr ?_))
     refine .i ?_ (z:=eql_f (by omega))
     refine .g ?_
     refine .done (.ff rfl (.sr ?_))
     refine .i ?_ (z:=eql_f (by omega))
     refine .g ?_
     refine .done (.ff rfl (.skip (.inBlock (.sr ?_))))
     refine .m ?_
     refine .m ?_
     refine .i ?_ (z:=sub_in (by omega) (by omega))
     refine .x .sf ?_
     refine .i ?_ (z:=by exact rfl)
     refine .g ?_
     refine .done ?_
     refine .rt hK Tryz.func151 Tryz.results151 [_] ?_
     exact fun H' hs=> ⟨hs.base,by simp only[packV];rw[←hb];rfl⟩
theorem turned_c(v first:Nat)(h1:v<128)(h2:first<8):CallT M 138 #[.int .u8 v,.int .i64 first] H (fun r H'=> H.le H'∧r=.int .u8 (turnedN v first:Nat)):=by
 refine CallT.enter (vs:= [.int .u8 v,.int .i64 first]) Tryz.func138 rfl Tryz.ntmps138 (Nat.le_of_ble_eq_true rfl) (SymSt.nil _) fun St c cs hK=> ?_
 have hb:=turned_bits v h1 first h2
 refine .sr ?_
 refine .g ?_
 refine .done (.sr ?_)
 refine .m ?_
 refine .m ?_
 refine .x .sf ?_
 refine .i ?_ (z:=by exact rfl)
 refine .i ?_ (z:=by exact rfl)
 refine .i ?_ (z:=by exact rfl)
 refine .g ?_
 refine .done ?_
 refine .rt hK Tryz.func138 Tryz.results138 [_] ?_
 exact fun H' hs=> ⟨hs.base,by simp only[packV];rw[←hb];rfl⟩
theorem read_c(v:Nat)(h1:v<128):CallT M 91 #[.int .u8 v] H (fun r H'=> H.le H'∧r=(match readN v with|some n=> .tuple ⟨[.int .i64 (n:Nat),.bool true]⟩|none=> .tuple ⟨[.int .i64 0,.bool false]⟩)):=by
 refine CallT.enter (vs:= [.int .u8 v]) Tryz.func91 rfl Tryz.ntmps91 (Nat.le_of_ble_eq_true rfl) (SymSt.nil _) fun St c cs hK=> ?_
 have e1:intBin .and .u8 (v:Int) 1=some (.int .u8 ((v%2:Nat):Int)):=by simp only[intBin,and1_bits v h1]
 have e2:shiftV .shr .u8 (v:Int) 6=some (.int .u8 ((v/64:Nat):Int)):=by simp only[shiftV];exact congrArg (fun z=> some (Value.int .u8 z)) (shr_bits v h1 6 (by omega))
 have e3:intBin .and .u8 ((v/64:Nat):Int) 1=some (.int .u8 ((v/64%2:Nat):Int)):=by simp only[intBin,and1_bits (v/64) (by omega)]
 have e4:shiftV .shr .u8 (v:Int) 1=some (.int .u8 ((v/2:Nat):Int)):=by simp only[shiftV];exact congrArg (fun z=> some (Value.int .u8 z)) (shr_bits v h1 1 (by omega))
 have e5:intBin .and .u8 ((v/2:Nat):Int) 31=some (.int .u8 ((v/2%32:Nat):Int)):=by simp only[intBin,and31_bits (v/2) (by omega)]
 have e6:IntKind.i64.wrap ((v/2%32:Nat):Int)=((v/2%32:Nat):Int):=wrap64 (by omega) (by omega)
 by_cases c1:v%2=0
 · by_cases c2:v/64%2=1
   · refine .sr ?_
     refine .g ?_
     refine .g ?_
     refine .done (.seq (.sr ?_))
     refine .m ?_
     refine .i ?_ (z:=by assumption)
     refine .i ?_ (z:=neq_f (by omega))
     refine .m ?_
     refine .m ?_
     refine .x .sf ?_
     refine .i ?_ (z:=by assumption)
     refine .i ?_ (z:=neq_f (by omega))
     refine .x .pk ?_
     refine .done (.ff rfl (.skip (.sr ?_)))
     refine .m ?_
     refine .x .sf ?_
     refine .i ?_ (z:=by assumption)
     refine .x .cv ?_
     refine .g ?_
     refine .g ?_
     refine .done ?_
     refine .rt hK Tryz.func91 Tryz.results91 [_,_] ?_
     exact fun H' hs=> ⟨hs.base,by simp[packV,readN,c1,c2]⟩
   · refine .sr ?_
     refine .g ?_
     refine .g ?_
     refine .done (.seq (.sr ?_))
     refine .m ?_
     refine .i ?_ (z:=by assumption)
     refine .i ?_ (z:=neq_f (by omega))
     refine .m ?_
     refine .m ?_
     refine .x .sf ?_
     refine .i ?_ (z:=by assumption)
     refine .i ?_ (z:=neq_t (by omega))
     refine .x .pk ?_
     refine .done (.tt rfl (.sr ?_))
     refine .g ?_
     refine .g ?_
     refine .done ?_
     refine .rt hK Tryz.func91 Tryz.results91 [_,_] ?_
     exact fun H' hs=> ⟨hs.base,by simp[packV,readN,c2]⟩
 · refine .sr ?_
   refine .g ?_
   refine .g ?_
   refine .done (.seq (.sr ?_))
   refine .m ?_
   refine .i ?_ (z:=by assumption)
   refine .i ?_ (z:=neq_t (by omega))
   refine .m ?_
   refine .sk ?_
   refine .sk ?_
   refine .sk ?_
   refine .sk ?_
   refine .x .pk ?_
   refine .done (.tt rfl (.sr ?_))
   refine .g ?_
   refine .g ?_
   refine .done ?_
   refine .rt hK Tryz.func91 Tryz.results91 [_,_] ?_
   exact fun H' hs=> ⟨hs.base,by simp[packV,readN,c1]⟩
end
end Go.Proofs.YtpdaenfglbgfkaaGreatDoor
end
section
namespace Go.Proofs.YtpdaenfglbgfkaaGreatDoor
open Go.RL
set_option maxRecDepth 10000
def beforeN(code place:Nat):Nat:=if place=0 then 1 else elementN code (place-1)
def placesTo(code:Nat):Nat→List Nat
 | 0=> []
 | p+1=> if elementN code p=beforeN code p then placesTo code p else placesTo code p++[p]
def edgeCells(ps:List Nat):List Value:=(ps.zipIdx.map fun x=> [Value.int .i64 (x.1:Nat),Value.int .i64 (x.2:Nat)]).flatten
theorem edgeCells_snoc(ps:List Nat)(p:Nat):edgeCells (ps++[p])=edgeCells ps++[.int .i64 (p:Nat),.int .i64 (ps.length:Nat)]:=by
 unfold edgeCells
 rw[List.zipIdx_append]
 simp
theorem placesTo_len(code p:Nat):(placesTo code p).length≤p:=by
 induction p with
 | zero=> simp[placesTo]
 | succ p ih=>
   unfold placesTo
   split
   · omega
   · simp;omega
section
variable(M:Md Tryz.prog)(H:View)
theorem letterOf_c(code:Nat)(h1:code<32):CallT M 113 #[.int .i64 code] H (fun v H'=> H.le H'∧∃g:Gl 169 2,v=.agg ⟨[.int .i64 code,g.val]⟩∧g.n=(placesTo code 7).length∧g.l=edgeCells (placesTo code 7)∧∀x∈g.bl,H' x.1=some x.2∧H x.1=none):=by
 refine CallT.enter (vs:= [.int .i64 code]) Tryz.func113 rfl Tryz.ntmps113 (Nat.le_of_ble_eq_true rfl) (SymSt.nil _) fun St c cs hK=> ?_
 refine .sr ?_
 refine .e (.al (zz:=fun b2=> ?_))
 refine .done (.sr ?_)
 refine .m ?_
 refine .x .bu ?_
 refine .e (.al (zz:=fun b3=> ?_))
 refine .e (.st 0 (zz:=?_))
 refine .done (.sr ?_)
 refine .g ?_
 refine .done (.seq (.sr ?_))
 refine .m ?_
 refine .done (.block ?_)
 refine Tc.db (Tc.loopInv (σ:= { s:Nat×Gl 169 2//s.1≤7∧s.2.n=(placesTo code s.1).length∧s.2.l=edgeCells (placesTo code s.1) })
   (fun s=> ([(9,.int .i64 (s.1.1:Nat)),(4,.int .i64 (beforeN code s.1.1:Nat)),(0,.int .i64 code),(2,.pointer (some ⟨b2,0,none⟩)),(3,.pointer (some ⟨b3,0,none⟩))],
     (b3,true,.cells ⟨[.int .i64 code,s.1.2.val]⟩ 112 (0,0))::(b2,true,.cells ⟨[.int .i64 0,.slice none 0 0]⟩ 112 (0,0))::s.1.2.bl)) (fun s=> 7-s.1.1) ?_ ⟨(0,Gl.nil 169 2),by simp,rfl,rfl⟩)
 rintro⟨⟨p,g⟩,g1,g2,g3⟩ ih
 simp only at g1 g2 g3
 have hlen:=placesTo_len code p
 show Tc M St _ _ _ _ [(9,.int .i64 (p:Nat)),(4,.int .i64 (beforeN code p:Nat)),(0,.int .i64 code),(2,.pointer (some ⟨b2,0,none⟩)),(3,.pointer (some ⟨b3,0,none⟩))]
     ((b3,true,.cells ⟨[.int .i64 code,g.val]⟩ 112 (0,0))::(b2,true,.cells ⟨[.int .i64 0,.slice none 0 0]⟩ 112 (0,0))::g.bl) _ _
 by_cases c7:p=7
 · subst c7
   refine .sr ?_
   refine .i ?_ (z:=lss_f (by omega))
   refine .done (.seq (.ff rfl (.exit rfl (.sr ?_))))
   refine .x (.ld 0) ?_
   refine .e (.st 1 (zz:=?_))
   refine .done ?_
   refine Tc.retN (E:=en) hK Tryz.func113 Tryz.results113 (vs:= [_]) (by refine⟨⟨1,_,_,_,_,_,_,_,rfl,rfl,rfl,rfl⟩,?_⟩;exact trivial) ?_
   refine fun H' hs=> ⟨hs.base,g,rfl,g2,g3,fun x hx=> ⟨hs.at_ x ?_,hs.out x ?_⟩⟩
   · exact List.mem_cons_of_mem _ (List.mem_cons_of_mem _ hx)
   · exact List.mem_cons_of_mem _ (List.mem_cons_of_mem _ hx)
 · have c8:p<7:=by omega
   refine .sr ?_
   refine .i ?_ (z:=lss_t (by omega))
   refine .done (.seq (.tt rfl (.skip (.seq (.block (.sr ?_))))))
   refine .m ?_
   refine .g ?_
   refine .done (.sr ?_)
   refine .m ?_
   refine .m ?_
   refine .c rfl rfl rfl rfl (fun H hs=> .f ca151 rfl (element_c M H code p h1 c8)) ?_
   refine .g ?_
   refine .done (.seq (.seq ?_))
   by_cases he:elementN code p=beforeN code p
   · refine .r ?_
     refine .m ?_
     refine .m ?_
     refine .i ?_ (z:=neq_f (by omega))
     refine .done (.ff rfl (.skip (.r ?_)))
     refine .m ?_
     refine .g ?_
     refine .done (.inBlock (.r ?_))
     refine .i ?_ (z:=add_in (by omega) (by omega))
     refine .m ?_
     refine .done ?_
     exact Tc.db (ih ⟨(p+1,g),by simp only;omega,by simp only[placesTo,he,if_true];exact g2,by simp only[placesTo,he,if_true];exact g3⟩ (by simp only;omega))
   · refine .r ?_
     refine .m ?_
     refine .m ?_
     refine .i ?_ (z:=neq_t (by omega))
     refine .done (.tt rfl (.r ?_))
     refine .x .fa ?_
     refine .x (.ld 0) ?_
     refine .m ?_
     refine .x .fa ?_
     refine .x (.ld 0) ?_
     refine .x .ln ?_
     refine .x .bu ?_
     refine .e (.bs (zz:=fun bs=> ?_))
     refine .e (Or.append (E:=en) 3 rfl rfl rfl rfl rfl rfl rfl rfl rfl rfl rfl rfl rfl rfl rfl (fun H hs=> SrcAt.of (hs.get (i:=0) rfl) (Nat.le_of_ble_eq_true rfl)) rfl (by omega) rfl (by decide) (fun g' hn hl=> ?_))
     refine .x .fa ?_
     refine .e (.st 1 (zz:=?_))
     refine .done (.r ?_)
     refine .m ?_
     refine .g ?_
     refine .done (.inBlock (.r ?_))
     refine .i ?_ (z:=add_in (by omega) (by omega))
     refine .m ?_
     refine .done ?_
     exact Tc.db (ih ⟨(p+1,g'),by simp only;omega,by simp only[placesTo,he,if_false];rw[hn,g2];simp,by simp only[placesTo,he,if_false];rw[hl,g3,edgeCells_snoc];rw[g2];rfl⟩ (by simp only;omega))
end
end Go.Proofs.YtpdaenfglbgfkaaGreatDoor
end
section
namespace Go.Proofs.YtpdaenfglbgfkaaGreatDoor
open Go.RL
set_option maxRecDepth 10000
def rightTo(code:Nat):Nat→Nat
 | 0=> 0
 | p+1=> rightTo code p+elementN code p*2 ^ p
def rightN(code:Nat):Nat:=rightTo code 7
theorem right_bits:∀c:Nat,c<32→∀p:Nat,p<7→bitI .or .u8 (rightTo c p:Nat) (IntKind.u8.wrap (IntKind.u8.wrap (elementN c p:Nat)*2 ^ (min (p:Int).toNat 8)))=(rightTo c (p+1):Nat):=by decide +kernel
section
variable(M:Md Tryz.prog)(H:View)
theorem right_c(code:Nat)(sv:Value)(h1:code<32):CallT M 95 #[.agg ⟨[.int .i64 code,sv]⟩] H (fun v H'=> H.le H'∧v=.int .u8 (rightN code:Nat)):=by
 refine CallT.enter (vs:= [.agg ⟨[.int .i64 code,sv]⟩]) Tryz.func95 rfl Tryz.ntmps95 (Nat.le_of_ble_eq_true rfl) (SymSt.nil _) fun St c cs hK=> ?_
 refine .sr ?_
 refine .e (.bx (zz:=fun b1=> ?_))
 refine .g ?_
 refine .done (.sr ?_)
 refine .g ?_
 refine .done (.seq (.sr ?_))
 refine .m ?_
 refine .done (.block ?_)
 refine Tc.db (Tc.loopInv (σ:= { p:Nat//p≤7 })
   (fun s=> ([(5,.int .i64 (s.1:Nat)),(3,.int .u8 (rightTo code s.1:Nat)),(1,.pointer (some ⟨b1,0,none⟩))],[(b1,true,.cells ⟨[.int .i64 code,sv]⟩ 112 (0,0))])) (fun s=> 7-s.1) ?_ ⟨0,by simp⟩)
 rintro⟨p,g1⟩ ih
 show Tc M St _ _ _ _ [(5,.int .i64 (p:Nat)),(3,.int .u8 (rightTo code p:Nat)),(1,.pointer (some ⟨b1,0,none⟩))] [(b1,true,.cells ⟨[.int .i64 code,sv]⟩ 112 (0,0))] _ _
 by_cases c7:p=7
 · subst c7
   refine .sr ?_
   refine .i ?_ (z:=lss_f (by omega))
   refine .done (.seq (.ff rfl (.exit rfl (.sr ?_))))
   refine .m ?_
   refine .g ?_
   refine .done ?_
   refine .rt hK Tryz.func95 Tryz.results95 [_] ?_
   exact fun H' hs=> ⟨hs.base,rfl⟩
 · have c8:p<7:=by omega
   have e1:intBin .or .u8 (rightTo code p:Nat) (IntKind.u8.wrap (IntKind.u8.wrap (elementN code p:Nat)*2 ^ (min (p:Int).toNat IntKind.u8.bits)))=some (.int .u8 (rightTo code (p+1):Nat)):=congrArg (fun z=> some (Value.int .u8 z)) (right_bits code h1 p c8)
   refine .sr ?_
   refine .i ?_ (z:=lss_t (by omega))
   refine .done (.seq (.tt rfl (.skip (.seq (.block (.sr ?_))))))
   refine .m ?_
   refine .g ?_
   refine .done (.r ?_)
   refine .m ?_
   refine .x .fa ?_
   refine .x (.ld 0) ?_
   refine .m ?_
   refine .c rfl rfl rfl rfl (fun H hs=> .f ca151 rfl (element_c M H code p h1 c8)) ?_
   refine .x .cv ?_
   refine .m ?_
   refine .x .sf ?_
   refine .i ?_ (z:=by assumption)
   refine .g ?_
   refine .done (.inBlock (.r ?_))
   refine .i ?_ (z:=add_in (by omega) (by omega))
   refine .m ?_
   refine .done ?_
   exact Tc.db (ih ⟨p+1,by omega⟩ (by simp only;omega))
end
end Go.Proofs.YtpdaenfglbgfkaaGreatDoor
end
section
namespace Go.Proofs.YtpdaenfglbgfkaaGreatDoor
open Go.RL
set_option maxRecDepth 10000
def keepTo(p:Nat→Bool)(k:Nat):List Value:=((List.range k).filter p).map fun i=> .int .i64 (i:Nat)
theorem keepTo_succ(p:Nat→Bool)(k:Nat):keepTo p (k+1)=if p k then keepTo p k++[.int .i64 (k:Nat)] else keepTo p k:=by
 unfold keepTo
 rw[List.range_succ,List.filter_append]
 cases h:p k <;> simp[h]
theorem keepTo_len(p:Nat→Bool)(k:Nat):(keepTo p k).length≤k:=by
 unfold keepTo
 rw[List.length_map]
 exact Nat.le_trans (List.length_filter_le _ _) (by simp)
def Asks(M:Md Tryz.prog)(H:View)(fv:Value)(many:Nat)(p:Nat→Bool):Prop:=
 ∀i:Nat,i<many→∀H',H.le H'→FnT M fv [.int .i64 (i:Nat)] H' fun v H''=> H'.le H''∧v=.bool (p i)
def firstTo(p:Nat→Bool):Nat→Option Nat
 | 0=> none
 | k+1=> (firstTo p k).or (if p k then some k else none)
theorem firstTo_stays {p:Nat→Bool}{j x:Nat}(h:firstTo p j=some x):∀m,j≤m→firstTo p m=some x:=by
 intro m hm
 induction m with
 | zero=>
   have:j=0:=by omega
   subst this
   exact h
 | succ m ih=>
   by_cases e:j=m+1
   · subst e;exact h
   · rw[firstTo,ih (by omega)]
     rfl
section
variable(M:Md Tryz.prog)(H:View)
theorem keep_c(many:Nat)(fv:Value)(p:Nat→Bool)(hm:many≤100000)(hp:Asks M H fv many p):CallT M 97 #[.int .i64 many,fv] H (fun v H'=> H.le H'∧∃g:Gl 3 1,v=g.val∧g.l=keepTo p many∧∀x∈g.bl,H' x.1=some x.2∧H x.1=none):=by
 refine CallT.enter (vs:= [.int .i64 many,fv]) Tryz.func97 rfl Tryz.ntmps97 (Nat.le_of_ble_eq_true rfl) (SymSt.nil _) fun St c cs hK=> ?_
 refine .sr ?_
 refine .g ?_
 refine .done (.sr ?_)
 refine .g ?_
 refine .done (.seq (.sr ?_))
 refine .m ?_
 refine .m ?_
 refine .done (.block ?_)
 refine Tc.db (Tc.loopInv (σ:= { s:Nat×Gl 3 1//s.1≤many∧s.2.l=keepTo p s.1 })
   (fun s=> ([(8,.int .i64 (s.1.1:Nat)),(7,.int .i64 many),(1,fv),(5,s.1.2.val)],s.1.2.bl)) (fun s=> many-s.1.1) ?_ ⟨(0,Gl.nil 3 1),by simp,rfl⟩)
 rintro⟨⟨k,g⟩,g1,g2⟩ ih
 simp only at g1 g2
 have hlen:g.n≤k:=by
   have h1:=keepTo_len p k
   rw[←g2,g.hl] at h1
   omega
 show Tc M St _ _ _ _ [(8,.int .i64 (k:Nat)),(7,.int .i64 many),(1,fv),(5,g.val)] g.bl _ _
 by_cases c1:k=many
 · subst c1
   refine .sr ?_
   refine .i ?_ (z:=lss_f (by omega))
   refine .done (.seq (.ff rfl (.exit rfl (.sr ?_))))
   refine .m ?_
   refine .g ?_
   refine .done ?_
   refine .rt hK Tryz.func97 Tryz.results97 [_] ?_
   exact fun H' hs=> ⟨hs.base,g,rfl,g2,fun x hx=> ⟨hs.at_ x hx,hs.out x hx⟩⟩
 · have c2:k<many:=by omega
   refine .sr ?_
   refine .i ?_ (z:=lss_t (by omega))
   refine .done (.seq (.tt rfl (.skip (.seq (.block (.sr ?_))))))
   refine .m ?_
   refine .g ?_
   refine .done (.sr ?_)
   refine .m ?_
   refine .m ?_
   refine .c rfl rfl rfl rfl (fun H hs=> hp k c2 H hs.base) ?_
   refine .done ?_
   cases hpk:p k with
   | false=>
     refine .ff rfl (.skip (.inBlock (.r ?_)))
     refine .i ?_ (z:=add_in (by omega) (by omega))
     refine .m ?_
     refine .done ?_
     exact Tc.db (ih ⟨(k+1,g),by simp only;omega,by simp only[keepTo_succ,hpk];exact g2⟩ (by simp only;omega))
   | true=>
     refine .tt rfl (.r ?_)
     refine .m ?_
     refine .m ?_
     refine .e (.bs (zz:=fun bs=> ?_))
     refine .e (Or.append (E:=en) 1 rfl rfl rfl rfl rfl rfl rfl rfl rfl rfl rfl rfl rfl rfl rfl (fun H hs=> SrcAt.of (hs.get (i:=0) rfl) (Nat.le_of_ble_eq_true rfl)) rfl (by omega) rfl (by decide) (fun g' hn hl=> ?_))
     refine .g ?_
     refine .done (.inBlock (.r ?_))
     refine .i ?_ (z:=add_in (by omega) (by omega))
     refine .m ?_
     refine .done ?_
     exact Tc.db (ih ⟨(k+1,g'),by simp only;omega,by simp only[keepTo_succ,hpk,if_true];rw[hl,g2];rfl⟩ (by simp only;omega))
theorem first_c(many:Nat)(fv:Value)(p:Nat→Bool)(hm:many≤100000)(hp:Asks M H fv many p):CallT M 104 #[.int .i64 many,fv] H (fun v H'=> H.le H'∧v=.tuple ⟨[.int .i64 ((firstTo p many).getD 0:Nat),.bool (firstTo p many).isSome]⟩):=by
 refine CallT.enter (vs:= [.int .i64 many,fv]) Tryz.func104 rfl Tryz.ntmps104 (Nat.le_of_ble_eq_true rfl) (SymSt.nil _) fun St c cs hK=> ?_
 refine .sr ?_
 refine .g ?_
 refine .g ?_
 refine .done (.seq (.sr ?_))
 refine .m ?_
 refine .m ?_
 refine .done (.block ?_)
 refine Tc.db (Tc.loopInv (σ:= { k:Nat//k≤many∧firstTo p k=none })
   (fun s=> ([(8,.int .i64 (s.1:Nat)),(7,.int .i64 many),(1,fv)],[])) (fun s=> many-s.1) ?_ ⟨0,by simp,rfl⟩)
 rintro⟨k,g1,g2⟩ ih
 show Tc M St _ _ _ _ [(8,.int .i64 (k:Nat)),(7,.int .i64 many),(1,fv)] [] _ _
 by_cases c1:k=many
 · subst c1
   refine .sr ?_
   refine .i ?_ (z:=lss_f (by omega))
   refine .done (.seq (.ff rfl (.exit rfl (.sr ?_))))
   refine .g ?_
   refine .g ?_
   refine .done ?_
   refine .rt hK Tryz.func104 Tryz.results104 [_,_] ?_
   exact fun H' hs=> ⟨hs.base,by simp[packV,g2]⟩
 · have c2:k<many:=by omega
   refine .sr ?_
   refine .i ?_ (z:=lss_t (by omega))
   refine .done (.seq (.tt rfl (.skip (.seq (.block (.sr ?_))))))
   refine .m ?_
   refine .g ?_
   refine .done (.sr ?_)
   refine .m ?_
   refine .m ?_
   refine .c rfl rfl rfl rfl (fun H hs=> hp k c2 H hs.base) ?_
   refine .done ?_
   cases hpk:p k with
   | false=>
     refine .ff rfl (.skip (.inBlock (.r ?_)))
     refine .i ?_ (z:=add_in (by omega) (by omega))
     refine .m ?_
     refine .done ?_
     exact Tc.db (ih ⟨k+1,by omega,by simp[firstTo,g2,hpk]⟩ (by simp only;omega))
   | true=>
     refine .tt rfl (.sr ?_)
     refine .m ?_
     refine .g ?_
     refine .g ?_
     refine .done ?_
     refine .rt hK Tryz.func104 Tryz.results104 [_,_] ?_
     have h1:firstTo p (k+1)=some k:=by simp[firstTo,g2,hpk]
     have h2:=firstTo_stays h1 many (by omega)
     exact fun H' hs=> ⟨hs.base,by simp[packV,h2]⟩
theorem all_c(a b:Int)(fv:Value)(J:Int→View→Prop)(D:View→Prop)(ha: -1000000000≤a)(hb:b≤1000000000)(h0:J a H)
   (hy:∀i H',a≤i→i≤b→J i H'→FnT M fv [.int .i64 i] H' fun v H''=> (v=.bool true∧J (i+1) H'')∨(v=.bool false∧D H'')):
   CallT M 156 #[bandV a b,fv] H (fun _ H'=> ∃H₁,H₁.le H'∧((∃i,b<i∧a≤i∧(i=a∨i=b+1)∧J i H₁)∨D H₁)):=by
 refine CallT.enter (vs:= [bandV a b,fv]) Tryz.func156 rfl Tryz.ntmps156 (Nat.le_of_ble_eq_true rfl) (SymSt.nil _) fun St c cs hK=> ?_
 refine .sr ?_
 refine .e (.bx (zz:=fun b1=> ?_))
 refine .done (.sr ?_)
 refine .x .fa ?_
 refine .x (.ld 0) ?_
 refine .g ?_
 refine .done (.block ?_)
 refine Tc.db (Tc.loopB (σ:= { s:Int×View//a≤s.1∧(s.1=a∨s.1≤b+1)∧J s.1 s.2 })
   (fun s=> (s.1.2,[(4,.int .i64 s.1.1),(1,fv),(2,.pointer (some ⟨b1,0,none⟩))],[(b1,true,.cells ⟨[.int .i64 a,.int .i64 b]⟩ 180 (0,0))])) (fun s=> (b+1-s.1.1).toNat) ?_ ⟨(a,H),by simp,by simp,h0⟩)
 rintro⟨⟨i,H₁⟩,g1,g2,g3⟩ ih
 simp only at g1 g2 g3
 show Tc M St _ _ H₁ _ [(4,.int .i64 i),(1,fv),(2,.pointer (some ⟨b1,0,none⟩))] [(b1,true,.cells ⟨[.int .i64 a,.int .i64 b]⟩ 180 (0,0))] _ _
 by_cases c1:i≤b
 · refine .seq (.sr ?_)
   refine .m ?_
   refine .x .fa ?_
   refine .x (.ld 0) ?_
   refine .i ?_ (z:=leq_t (by omega))
   refine .done (.tt rfl (.skip (.seq (.block (.sr ?_)))))
   refine .m ?_
   refine .m ?_
   refine To.callF rfl rfl rfl rfl rfl rfl (by decide) (hy i H₁ g1 c1 g3) (fun v H₂ hv=> ?_)
   rcases hv with ⟨rfl,hv⟩|⟨rfl,hv⟩
   · refine .x .nt ?_
     refine .done (.ff rfl (.skip (.inBlock (.r ?_))))
     refine .m ?_
     refine .i ?_ (z:=add_in (by omega) (by omega))
     refine .g ?_
     refine .done ?_
     exact Tc.db (ih ⟨(i+1,H₂),by simp only;omega,by simp only;omega,hv⟩ (by simp only;omega))
   · refine .x .nt ?_
     refine .done (.tt rfl ?_)
     refine Tc.retN (E:=en) hK Tryz.func156 Tryz.results156 (vs:= []) (by exact trivial) ?_
     exact fun H' hs=> ⟨H₂,hs.base,.inr hv⟩
 · refine .seq (.sr ?_)
   refine .m ?_
   refine .x .fa ?_
   refine .x (.ld 0) ?_
   refine .i ?_ (z:=leq_f (by omega))
   refine .done (.ff rfl (.exit rfl ?_))
   refine Tc.overN (E:=en) hK Tryz.func156 Tryz.results156 (vs:= []) (by exact trivial) ?_
   exact fun H' hs=> ⟨H₁,hs.base,.inl ⟨i,by omega,g1,by omega,g3⟩⟩
end
end Go.Proofs.YtpdaenfglbgfkaaGreatDoor
end
section
namespace Go.Proofs.YtpdaenfglbgfkaaGreatDoor
open Go.RL
set_option maxRecDepth 10000
def intsL(l:List Int):List Value:=l.map fun x=> .int .i64 x
def timesV(l:List Int):Value:=.agg ⟨intsL l⟩
def afterTo(l:List Int)(k:Nat):List Int:=l.zipIdx.map fun x=> if x.2<k then x.1-l.headD 0 else x.1
theorem intsL_len(l:List Int):(intsL l).length=l.length:=by simp[intsL]
theorem afterTo_len(l:List Int)(k:Nat):(afterTo l k).length=l.length:=by simp[afterTo]
theorem afterTo_get {l:List Int}{k i:Nat}{x:Int}(h:l[i]? =some x):(afterTo l k)[i]? =some (if i<k then x-l.headD 0 else x):=by
 simp[afterTo,h]
theorem intsL_get {l:List Int}{i:Nat}{x:Int}(h:l[i]? =some x):(intsL l)[i]? =some (.int .i64 x):=by simp[intsL,h]
theorem stL_one(l:List Value)(i:Nat)(v:Value)(h:i<l.length):stL l i [v]=l.set i v:=by
 unfold stL
 rw[List.set_eq_take_append_cons_drop,if_pos h]
 simp
theorem six {l:List Int}(h:l.length=6):∃a b c d e f,l= [a,b,c,d,e,f]:=by
 match l,h with
 | [a,b,c,d,e,f],_=> exact⟨a,b,c,d,e,f,rfl⟩
theorem afterTo_step {l:List Int}{k:Nat}{x:Int}(h:l[k]? =some x):stL (intsL (afterTo l k)) k [.int .i64 (x-l.headD 0)]=intsL (afterTo l (k+1)):=by
 have hk:k<l.length:=(List.getElem?_eq_some_iff.1 h).1
 rw[stL_one _ _ _ (by rw[intsL_len,afterTo_len];exact hk)]
 apply List.ext_getElem?
 intro i
 by_cases e:k=i
 · subst e
   rw[List.getElem?_set_self (by rw[intsL_len,afterTo_len];exact hk),intsL_get (afterTo_get h),if_pos (by omega)]
 · rw[List.getElem?_set_ne e]
   cases hx:l[i]? with
   | none=>
     have h1:l.length≤i:=List.getElem?_eq_none_iff.1 hx
     rw[List.getElem?_eq_none (by rw[intsL_len,afterTo_len];exact h1),List.getElem?_eq_none (by rw[intsL_len,afterTo_len];exact h1)]
   | some y=>
     rw[intsL_get (afterTo_get hx),intsL_get (afterTo_get hx)]
     by_cases e2:i<k
     · rw[if_pos e2,if_pos (by omega)]
     · rw[if_neg e2,if_neg (by omega)]
section
variable(M:Md Tryz.prog)(H:View)
theorem clone_c(a:Option Addr)(m c:Nat)(l:List Value)(hm:m≤100000)(hs:SrcAt H 1 (.slice a m c) m l)(h1:l.all single=true):CallT M 136 #[.slice a m c] H (fun v H'=> H.le H'∧∃g:Gl 3 1,v=g.val∧g.l=l∧∀x∈g.bl,H' x.1=some x.2∧H x.1=none):=by
 refine CallT.enter (vs:= [.slice a m c]) Tryz.func136 rfl Tryz.ntmps136 (Nat.le_of_ble_eq_true rfl) (SymSt.nil _) fun St c cs hK=> ?_
 cases a with
 | none=>
   refine .sr ?_
   refine .g ?_
   refine .done (.seq (.sr ?_))
   refine .m ?_
   refine .x (OpV.eqNil (E:=en) rfl rfl rfl rfl rfl) ?_
   refine .done (.tt rfl (.sr ?_))
   refine .g ?_
   refine .done ?_
   refine .rt hK Tryz.func136 Tryz.results136 [_] ?_
   refine fun H' hs'=> ⟨hs'.base,Gl.nil 3 1,rfl,?_,by simp[Gl.nil,Gl.bl]⟩
   obtain⟨_,h2,h3|⟨b,off,_,_,_,_,_,h3,_⟩⟩:=hs
   · obtain⟨_,_,rfl⟩:=h3;rfl
   · cases h3
 | some a=>
   refine .sr ?_
   refine .g ?_
   refine .done (.seq (.sr ?_))
   refine .m ?_
   refine .x (OpV.eqNil (E:=en) rfl rfl rfl rfl rfl) ?_
   refine .done (.ff rfl (.skip (.sr ?_)))
   refine .e (.bs (zz:=fun bs=> ?_))
   refine .m ?_
   refine .e (Or.append (E:=en) (g:=Gl.emp 3 1 bs) 0 rfl rfl rfl rfl rfl rfl rfl rfl rfl rfl rfl rfl rfl rfl rfl (fun H' hs'=> hs.mono hs'.base) h1 (by show 0+m≤_;omega) rfl (by decide) (fun g' hn hl=> ?_))
   refine .g ?_
   refine .done ?_
   refine .rt hK Tryz.func136 Tryz.results136 [_] ?_
   exact fun H' hs'=> ⟨hs'.base,g',rfl,by rw[hl];rfl,fun x hx=> ⟨hs'.at_ x hx,hs'.out x hx⟩⟩
theorem after_c(l:List Int)(many:Nat)(h6:l.length=6)(hm:many≤6)(hb:∀x∈l, -1000000000≤x∧x≤1000000000):CallT M 137 #[timesV l,.int .i64 many] H (fun v H'=> H.le H'∧v=timesV (afterTo l many)):=by
 refine CallT.enter (vs:= [timesV l,.int .i64 many]) Tryz.func137 rfl Tryz.ntmps137 (Nat.le_of_ble_eq_true rfl) (SymSt.nil _) fun St c cs hK=> ?_
 obtain⟨x0,l',rfl⟩:∃x l',l=x::l':=by
   cases l with
   | nil=> cases h6
   | cons x l'=> exact⟨x,l',rfl⟩
 have z0:afterTo (x0::l') 0=x0::l':=by
   unfold afterTo
   simp
 have hx0:=hb x0 (by simp)
 refine .sr ?_
 refine .e (.bx (zz:=fun b2=> ?_))
 refine .e (.al (zz:=fun b4=> ?_))
 refine .done (.sr ?_)
 refine .x .ib ?_
 refine .x (.ld 1) ?_
 refine .g ?_
 refine .done (.seq (.sr ?_))
 refine .m ?_
 refine .m ?_
 refine .done (.block ?_)
 refine Tc.db (Tc.loopInv (σ:= { s:Nat×List Int//s.1≤many∧s.2=afterTo (x0::l') s.1 })
   (fun s=> ([(10,.int .i64 (s.1.1:Nat)),(9,.int .i64 many),(5,.int .i64 x0),(2,.pointer (some ⟨b2,0,none⟩)),(4,.pointer (some ⟨b4,0,none⟩))],
     [(b4,true,.cells ⟨[.int .i64 0,.int .i64 0,.int .i64 0,.int .i64 0,.int .i64 0,.int .i64 0]⟩ 135 (0,0)),(b2,true,.cells ⟨intsL s.1.2⟩ 135 (0,0))])) (fun s=> many-s.1.1) ?_ ⟨(0,x0::l'),by simp,z0.symm⟩)
 rintro⟨⟨k,cur⟩,g1,g2⟩ ih
 simp only at g1 g2
 have hcl:(intsL cur).length=6:=by rw[intsL_len,g2,afterTo_len];exact h6
 show Tc M St _ _ _ _ [(10,.int .i64 (k:Nat)),(9,.int .i64 many),(5,.int .i64 x0),(2,.pointer (some ⟨b2,0,none⟩)),(4,.pointer (some ⟨b4,0,none⟩))]
     [(b4,true,.cells ⟨[.int .i64 0,.int .i64 0,.int .i64 0,.int .i64 0,.int .i64 0,.int .i64 0]⟩ 135 (0,0)),(b2,true,.cells ⟨intsL cur⟩ 135 (0,0))] _ _
 by_cases c1:k=many
 · subst c1
   obtain⟨y0,y1,y2,y3,y4,y5,hy⟩:=six (show cur.length=6 by rw[←intsL_len];exact hcl)
   subst hy
   refine .sr ?_
   refine .i ?_ (z:=lss_f (by omega))
   refine .done (.seq (.ff rfl (.exit rfl (.sr ?_))))
   refine .x (.ld 1) ?_
   refine .e (.st 0 (zz:=?_))
   refine .done ?_
   refine Tc.retN (E:=en) hK Tryz.func137 Tryz.results137 (vs:= [_]) (by refine⟨⟨0,_,_,_,_,_,_,_,rfl,rfl,rfl,rfl⟩,?_⟩;exact trivial) ?_
   exact fun H' hs=> ⟨hs.base,by rw[←g2];rfl⟩
 · have c2:k<many:=by omega
   obtain⟨x,hx⟩:∃x,(x0::l')[k]? =some x:=⟨_,List.getElem?_eq_getElem (by rw[h6];omega)⟩
   have hxb:=hb x (List.mem_of_getElem? hx)
   have hcx:cur[k]? =some x:=by rw[g2,afterTo_get hx,if_neg (by omega)]
   have f1:ldL false 1 (intsL cur) (0+(k:Int).toNat*1)=some (.int .i64 x):=by
     show(intsL cur)[0+(k:Int).toNat*1]? =_
     rw[show 0+(k:Int).toNat*1=k by simp]
     exact intsL_get hcx
   have f2:stL (intsL cur) (0+(k:Int).toNat*1) [.int .i64 (x-x0)]=intsL (afterTo (x0::l') (k+1)):=by
     rw[show 0+(k:Int).toNat*1=k by simp,g2]
     exact afterTo_step hx
   have f3:Nat.ble (0+(k:Int).toNat*1+1) (intsL cur).length=true:=Nat.ble_eq_true_of_le (by rw[hcl];simp;omega)
   refine .sr ?_
   refine .i ?_ (z:=lss_t (by omega))
   refine .done (.seq (.tt rfl (.skip (.seq (.block (.sr ?_))))))
   refine .m ?_
   refine .g ?_
   refine .done (.r ?_)
   refine .m ?_
   refine .x .ib ?_
   refine .x (.ld 1) ?_
   refine .m ?_
   refine .i ?_ (z:=sub_in (by omega) (by omega))
   refine .x .ib ?_
   refine .e (.st 1 (zz:=?_))
   refine .done (.inBlock (.r ?_))
   refine .i ?_ (z:=add_in (by omega) (by omega))
   refine .m ?_
   refine .done ?_
   exact Tc.db (ih ⟨(k+1,afterTo (x0::l') (k+1)),by simp only;omega,rfl⟩ (by simp only;omega))
end
end Go.Proofs.YtpdaenfglbgfkaaGreatDoor
end
section
namespace Go.Proofs.YtpdaenfglbgfkaaGreatDoor
open Go.RL
set_option maxRecDepth 10000
def stillF(place number send lean:Int):Int:=2*place*send+if number%2=0 then -lean else lean
def seenAt(ps:List Nat)(mv:List Int)(send lean:Int)(i:Nat):Int:=stillF ((ps[i]?.getD 0:Nat):Int) i send lean+mv[i]?.getD 0
def seenTo(ps:List Nat)(mv:List Int)(send lean:Int)(k:Nat):List Int:=(List.range 6).map fun i=> if i<k then seenAt ps mv send lean i else 0
theorem seenTo_len(ps:List Nat)(mv:List Int)(send lean:Int)(k:Nat):(seenTo ps mv send lean k).length=6:=by simp[seenTo]
theorem seenTo_step {ps:List Nat}{mv:List Int}{send lean:Int}{k:Nat}(hk:k<6):stL (intsL (seenTo ps mv send lean k)) k [.int .i64 (seenAt ps mv send lean k)]=intsL (seenTo ps mv send lean (k+1)):=by
 rw[stL_one _ _ _ (by rw[intsL_len,seenTo_len];exact hk)]
 apply List.ext_getElem?
 intro i
 by_cases e:k=i
 · subst e
   rw[List.getElem?_set_self (by rw[intsL_len,seenTo_len];exact hk)]
   simp[intsL,seenTo,hk]
 · rw[List.getElem?_set_ne e]
   by_cases hi:i<6
   · simp only[intsL,seenTo,List.getElem?_map,List.getElem?_range hi,Option.map_some]
     by_cases e2:i<k
     · rw[if_pos e2,if_pos (by omega)]
     · rw[if_neg e2,if_neg (by omega)]
   · rw[List.getElem?_eq_none (by rw[intsL_len,seenTo_len];omega),List.getElem?_eq_none (by rw[intsL_len,seenTo_len];omega)]
section
variable(M:Md Tryz.prog)(H:View)
theorem still_c(place number send lean:Int)(h1:0≤place)(h2:place≤6)(h3:0≤number)(h4:0≤send)(h5:send≤1000)(h6: -1000≤lean)(h7:lean≤1000):
   CallT M 172 #[.agg ⟨[.int .i64 place,.int .i64 number]⟩,.int .i64 send,.int .i64 lean] H (fun v H'=> H.le H'∧v=.int .i64 (stillF place number send lean)):=by
 refine CallT.enter (vs:= [.agg ⟨[.int .i64 place,.int .i64 number]⟩,.int .i64 send,.int .i64 lean]) Tryz.func172 rfl Tryz.ntmps172 (Nat.le_of_ble_eq_true rfl) (SymSt.nil _) fun St c cs hK=> ?_
 have h8:0≤2*place*send:=Int.mul_nonneg (by omega) h4
 have h9:2*place*send≤12*1000:=Int.mul_le_mul (by omega) h5 h4 (by omega)
 refine .sr ?_
 refine .e (.bx (zz:=fun b1=> ?_))
 refine .g ?_
 refine .done ?_
 by_cases h:number%2=0
 · refine .seq (.sr ?_)
   refine .x .fa ?_
   refine .x (.ld 0) ?_
   refine .i ?_ (z:=rem_in (by omega) (by omega))
   refine .i ?_ (z:=eql_t (by omega))
   refine .done (.tt rfl (.r ?_))
   refine .m ?_
   refine .x .ng ?_
   refine .g ?_
   refine .done (.sr ?_)
   refine .x .fa ?_
   refine .x (.ld 0) ?_
   refine .i ?_ (z:=mul_in (by omega) (by omega))
   refine .m ?_
   refine .i ?_ (z:=mul_in (by omega) (by omega))
   refine .m ?_
   refine .i ?_ (z:=add_in (by omega) (by omega))
   refine .g ?_
   refine .done ?_
   refine .rt hK Tryz.func172 Tryz.results172 [_] ?_
   exact fun H' hs=> ⟨hs.base,by simp[packV,stillF,h]⟩
 · refine .seq (.sr ?_)
   refine .x .fa ?_
   refine .x (.ld 0) ?_
   refine .i ?_ (z:=rem_in (by omega) (by omega))
   refine .i ?_ (z:=eql_f (by omega))
   refine .done (.ff rfl (.skip (.sr ?_)))
   refine .x .fa ?_
   refine .x (.ld 0) ?_
   refine .i ?_ (z:=mul_in (by omega) (by omega))
   refine .m ?_
   refine .i ?_ (z:=mul_in (by omega) (by omega))
   refine .m ?_
   refine .i ?_ (z:=add_in (by omega) (by omega))
   refine .g ?_
   refine .done ?_
   refine .rt hK Tryz.func172 Tryz.results172 [_] ?_
   exact fun H' hs=> ⟨hs.base,by simp[packV,stillF,h]⟩
theorem still_in {place number send lean:Int}(h1:0≤place)(h2:place≤6)(h4:0≤send)(h5:send≤1000)(h6: -1000≤lean)(h7:lean≤1000): -1000≤stillF place number send lean∧stillF place number send lean≤13000:=by
 have h8:0≤2*place*send:=Int.mul_nonneg (by omega) h4
 have h9:2*place*send≤12*1000:=Int.mul_le_mul (by omega) h5 h4 (by omega)
 unfold stillF
 split <;> omega
theorem seen_c(code send read lean:Int)(ps:List Nat)(mv:List Int)(eb eo ec vb vo vc:Nat)(f1 f2:Bool)(es vs:List Value)(et vt:TypeId)(ez vz:Nat×Nat)
   (hE:H eb=some (f1,.cells ⟨es⟩ et ez)) (hE2:∀i:Nat,i<ps.length→ldL true 2 es (eo+i*2)=some (.agg ⟨[.int .i64 ((ps[i]?.getD 0:Nat):Int),.int .i64 (i:Nat)]⟩))
   (hV:H vb=some (f2,.cells ⟨vs⟩ vt vz)) (hV2:∀i:Nat,i<ps.length→ldL false 1 vs (vo+i*1)=some (.int .i64 (mv[i]?.getD 0)))
   (hp:ps.length≤6) (hp6:∀i:Nat,i<ps.length→ps[i]?.getD 0≤6) (hmv:∀i:Nat, -1000≤mv[i]?.getD 0∧mv[i]?.getD 0≤1000) (h4:0≤send) (h5:send≤1000) (h6: -1000≤lean) (h7:lean≤1000) (ml:Nat) (hml:ps.length≤ml):
   CallT M 135 #[.agg ⟨[.int .i64 code,.slice (some ⟨eb,eo,none⟩) ps.length ec]⟩,.agg ⟨[.int .i64 send,.int .i64 read,.int .i64 lean,.slice (some ⟨vb,vo,none⟩) ml vc]⟩] H (fun v H'=> H.le H'∧v=timesV (seenTo ps mv send lean ps.length)):=by
 refine CallT.enter (vs:= [.agg ⟨[.int .i64 code,.slice (some ⟨eb,eo,none⟩) ps.length ec]⟩,.agg ⟨[.int .i64 send,.int .i64 read,.int .i64 lean,.slice (some ⟨vb,vo,none⟩) ml vc]⟩]) Tryz.func135 rfl Tryz.ntmps135 (Nat.le_of_ble_eq_true rfl) (SymSt.nil _) fun St c cs hK=> ?_
 refine .sr ?_
 refine .e (.bx (zz:=fun b2=> ?_))
 refine .e (.bx (zz:=fun b3=> ?_))
 refine .e (.al (zz:=fun b4=> ?_))
 refine .done (.sr ?_)
 refine .e (.al (zz:=fun b5=> ?_))
 refine .done (.seq (.sr ?_))
 refine .x .fa ?_
 refine .x (.ld 3) ?_
 refine .x .ln ?_
 refine .m ?_
 refine .done (.block ?_)
 refine Tc.db (Tc.loopInv (σ:= { s:Nat×List Int//s.1≤ps.length∧s.2=seenTo ps mv send lean s.1 })
   (fun s=> ([(11,.int .i64 (s.1.1:Nat)),(10,.int .i64 ps.length),(9,.slice (some ⟨eb,eo,none⟩) ps.length ec),(2,.pointer (some ⟨b2,0,none⟩)),(3,.pointer (some ⟨b3,0,none⟩)),(4,.pointer (some ⟨b4,0,none⟩)),(5,.pointer (some ⟨b5,0,none⟩))],
     [(b5,true,.cells ⟨intsL s.1.2⟩ 135 (0,0)),(b4,true,.cells ⟨[.int .i64 0,.int .i64 0,.int .i64 0,.int .i64 0,.int .i64 0,.int .i64 0]⟩ 135 (0,0)),
      (b3,true,.cells ⟨[.int .i64 send,.int .i64 read,.int .i64 lean,.slice (some ⟨vb,vo,none⟩) ml vc]⟩ 39 (0,0)),(b2,true,.cells ⟨[.int .i64 code,.slice (some ⟨eb,eo,none⟩) ps.length ec]⟩ 112 (0,0))])) (fun s=> ps.length-s.1.1) ?_ ⟨(0,[0,0,0,0,0,0]),by simp,rfl⟩)
 rintro⟨⟨k,cur⟩,g1,g2⟩ ih
 simp only at g1 g2
 have hcl:(intsL cur).length=6:=by rw[intsL_len,g2,seenTo_len]
 show Tc M St _ _ _ _ [(11,.int .i64 (k:Nat)),(10,.int .i64 ps.length),(9,.slice (some ⟨eb,eo,none⟩) ps.length ec),(2,.pointer (some ⟨b2,0,none⟩)),(3,.pointer (some ⟨b3,0,none⟩)),(4,.pointer (some ⟨b4,0,none⟩)),(5,.pointer (some ⟨b5,0,none⟩))]
     [(b5,true,.cells ⟨intsL cur⟩ 135 (0,0)),(b4,true,.cells ⟨[.int .i64 0,.int .i64 0,.int .i64 0,.int .i64 0,.int .i64 0,.int .i64 0]⟩ 135 (0,0)),
      (b3,true,.cells ⟨[.int .i64 send,.int .i64 read,.int .i64 lean,.slice (some ⟨vb,vo,none⟩) ml vc]⟩ 39 (0,0)),(b2,true,.cells ⟨[.int .i64 code,.slice (some ⟨eb,eo,none⟩) ps.length ec]⟩ 112 (0,0))] _ _
 by_cases c1:k=ps.length
 · obtain⟨y0,y1,y2,y3,y4,y5,hy⟩:=six (show cur.length=6 by rw[←intsL_len];exact hcl)
   subst hy
   refine .sr ?_
   refine .i ?_ (z:=lss_f (by omega))
   refine .done (.seq (.ff rfl (.exit rfl (.sr ?_))))
   refine .x (.ld 0) ?_
   refine .e (.st 1 (zz:=?_))
   refine .done ?_
   refine Tc.retN (E:=en) hK Tryz.func135 Tryz.results135 (vs:= [_]) (by refine⟨⟨1,_,_,_,_,_,_,_,rfl,rfl,rfl,rfl⟩,?_⟩;exact trivial) ?_
   exact fun H' hs=> ⟨hs.base,by rw[←c1,←g2];rfl⟩
 · have c2:k<ps.length:=by omega
   have k1:(k:Int).toNat=k:=by simp
   have f0:=hE2 k c2
   have f1:ldL true 2 es (eo+(k:Int).toNat*2)=some (.agg ⟨[.int .i64 ((ps[k]?.getD 0:Nat):Int),.int .i64 (k:Nat)]⟩):=by rw[k1];exact f0
   have f4:ldL false 1 vs (vo+(k:Int).toNat*1)=some (.int .i64 (mv[k]?.getD 0)):=by rw[k1];exact hV2 k c2
   have f2:stL (intsL cur) (0+(k:Int).toNat*1) [.int .i64 (stillF ((ps[k]?.getD 0:Nat):Int) (k:Nat) send lean+mv[k]?.getD 0)]=intsL (seenTo ps mv send lean (k+1)):=by
     rw[show 0+(k:Int).toNat*1=k by simp,g2]
     exact seenTo_step (by omega)
   have f3:Nat.ble (0+(k:Int).toNat*1+1) (intsL cur).length=true:=Nat.ble_eq_true_of_le (by rw[hcl];simp;omega)
   have b6:=hp6 k c2
   have b7:=hmv k
   have b8:=still_in (place:=((ps[k]?.getD 0:Nat):Int)) (number:=(k:Nat)) (by omega) (by omega) h4 h5 h6 h7
   refine .sr ?_
   refine .i ?_ (z:=lss_t (by omega))
   refine .done (.seq (.tt rfl (.skip (.seq (.block (.sr ?_))))))
   refine .m ?_
   refine .x .ia ?_
   refine .x .l0 ?_
   refine .e (.al (zz:=fun b7=> ?_))
   refine .g ?_
   refine .e (.st 0 (zz:=?_))
   refine .done ?_
   refine Tc.dr [14] [1] mixed rfl ?_
   refine .q 0 rfl .mv ?_
   refine .q 1 rfl (.ld 0) ?_
   refine .q 2 rfl .fa ?_
   refine .q 3 rfl (.ld 3) ?_
   refine .q 4 rfl .fa ?_
   refine .q 5 rfl (.ld 3) ?_
   refine .z 6 rfl (OpV.takeCall rfl rfl rfl rfl (fun H hs=> .f ca172 rfl (still_c M H (ps[k]?.getD 0:Nat) k send lean (by omega) (by omega) (by omega) h4 h5 h6 h7))) ?_
   refine .q 7 rfl .fa ?_
   refine .q 8 rfl (.ld 3) ?_
   refine .q 9 rfl .mv ?_
   refine .q 10 rfl .ia ?_
   refine .q 11 rfl .l0 ?_
   refine .q 12 rfl (.it (zz:=add_in (by omega) (by omega))) ?_
   refine .q 13 rfl .ib ?_
   refine Ta.each [14] (by kernel_rfl) rfl ⟨TaOp.mk rfl rfl rfl (.st 1 (zz:=⟨S2.mk (by apply List.Sublist.cons_cons;apply List.Sublist.cons;exact List.Sublist.refl _) (.inl (by kernel_rfl)),?_⟩)),trivial⟩
   refine Ta.done (by kernel_rfl) ?_
   refine .inBlock (.r ?_)
   refine .i ?_ (z:=add_in (by omega) (by omega))
   refine .m ?_
   refine .done ?_
   exact Tc.db (ih ⟨(k+1,seenTo ps mv send lean (k+1)),by simp only;omega,rfl⟩ (by simp only;omega))
end
end Go.Proofs.YtpdaenfglbgfkaaGreatDoor
end
section
namespace Go.Proofs.YtpdaenfglbgfkaaGreatDoor
open Go.RL
set_option maxRecDepth 10000
def edgeV(p i:Nat):Value:=.agg ⟨[.int .i64 (p:Nat),.int .i64 (i:Nat)]⟩
theorem edge_flat(p i:Nat):flat en 2 169 [.int .i64 (p:Nat),.int .i64 (i:Nat)]:=by
 refine⟨rfl,?_⟩
 intro f hf
 simp only[List.mem_cons,List.not_mem_nil,or_false] at hf
 rcases hf with rfl|rfl
 · exact⟨⟨_,rfl⟩,_,rfl,rfl,Nat.le_of_ble_eq_true rfl⟩
 · exact⟨⟨_,rfl⟩,_,rfl,rfl,Nat.le_of_ble_eq_true rfl⟩
theorem edge_key(p i:Nat):KeyFl en 2 169 (edgeV p i):=⟨_,_,rfl,rfl,edge_flat p i⟩
theorem edgeV_inj {p i q j:Nat}:edgeV p i=edgeV q j↔p=q∧i=j:=by
 simp only[edgeV,Value.agg.injEq,Array.mk.injEq,List.cons.injEq,Value.int.injEq,true_and,and_true]
 omega
theorem eg169:Tryz.prog.eqGuardType Tryz.prog.depth 169=false:=by kernel_rfl
def optGo(read mt after:Int):Nat→Int→List (Int×Int)
 | 0,_=> []
 | f+1,n=> if n≤mt then(missedF read (after+n),n)::(if missedF read (after+n)=7 then [] else optGo read mt after f ((2*missedF read (after+n)+1)*read+1-after)) else []
def optCells(l:List (Int×Int)):List Value:=(l.map fun x=> [Value.int .i64 x.1,Value.int .i64 x.2]).flatten
theorem missedGo_in(pace after:Int):∀(f:Nat) (n:Int),n≤missedGo pace after f n∧missedGo pace after f n≤n+f∧(missedGo pace after f n<n+f→after≤(2*missedGo pace after f n+1)*pace)
 | 0,n=> ⟨by simp[missedGo],by simp[missedGo],fun h=> by simp[missedGo] at h⟩
 | f + 1,n=> by
   unfold missedGo
   split
   · obtain⟨h1,h2,h3⟩:=missedGo_in pace after f (n+1)
     exact⟨by omega,by omega,fun h=> h3 (by omega)⟩
   · rename_i h
     exact⟨by omega,by omega,fun _=> by omega⟩
theorem missedF_in(pace after:Int):0≤missedF pace after∧missedF pace after≤7∧(missedF pace after≠7→after≤(2*missedF pace after+1)*pace):=by
 obtain⟨h1,h2,h3⟩:=missedGo_in pace after 7 0
 exact⟨h1,by unfold missedF;omega,fun h=> h3 (by have:=h2;simp only[missedF] at h;omega)⟩
structure Stg where
 code:Nat
 ps:List Nat
 send:Int
 read:Int
 lean:Int
 first:Int
 mf:Int
 mt:Int
def Stg.after(s:Stg)(p i:Nat):Int:=stillF p i s.send s.lean-stillF ((s.ps[0]?.getD 0:Nat):Int) 0 s.send s.lean-s.first
def Stg.opts(s:Stg)(p i:Nat):List (Int×Int):=if i=0 then [(0,s.first)] else optGo s.read s.mt (s.after p i) (s.mt+1-s.mf).toNat s.mf
structure Stg.Ok(s:Stg):Prop where
 code:s.code<32
 ps0:0<s.ps.length
 ps6:s.ps.length≤6
 places:∀i:Nat,i<s.ps.length→s.ps[i]?.getD 0≤6
 send:0≤s.send∧s.send≤1000
 read:0≤s.read∧s.read≤1000
 lean: -1000≤s.lean∧s.lean≤1000
 first: -1000≤s.first∧s.first≤1000
 mf: -1000≤s.mf∧s.mf≤1000
 mt:s.mt≤1000
def Stg.val(s:Stg)(eb ec mb:Nat):Value:=.agg ⟨[.int .i64 s.code,.slice (some ⟨eb,0,none⟩) s.ps.length ec,.int .i64 s.send,.int .i64 s.read,.int .i64 s.lean,.int .i64 s.first,.int .i64 s.mf,.int .i64 s.mt,.map (some mb)]⟩
def EdgesAt(H:View)(s:Stg)(eb:Nat):Prop:=
 ∃f es et ez,H eb=some (f,.cells ⟨es⟩ et ez)∧∀i:Nat,i<s.ps.length→ldL true 2 es (0+i*2)=some (edgeV (s.ps[i]?.getD 0) i)
def Memo(H:View)(s:Stg)(es:List MapEntry):Prop:=∀e∈es,∃p i:Nat,e.key=edgeV p i∧SrcAt H 2 e.val (s.opts p i).length (optCells (s.opts p i))
theorem Memo.keys {H:View}{s:Stg}{es:List MapEntry}(h:Memo H s es):∀e∈es,KeyFl en 2 169 e.key:=fun e he=> by
 obtain⟨p,i,hk,_⟩:=h e he
 rw[hk]
 exact edge_key p i
theorem blockVia {P:Program}{M:Md P}{St:View→Goroutine→Prop}{n:Nat}{b:FB}{H₀:View}{cs:List Frame}{R:Rg}{L:Bl}{ds:List Deferred}{k:List Item}{id:Nat}{x:Code}(F:Rg→Bl→Prop)(hF:∀R L,F R L→Tc M St n b H₀ cs R L ds k)
   (h:(∀R L,F R L→Tc M St n b H₀ cs R L ds k)→Tc M St n b H₀ cs R L ds (.code x:: .inBlock id::k)):Tc M St n b H₀ cs R L ds (.code (.block id x)::k):=.block (h hF)
theorem optCells_len(l:List (Int×Int)):(optCells l).length=l.length*2:=by
 induction l with
 | nil=> rfl
 | cons x l ih=> simp only[optCells,List.map_cons,List.flatten_cons,List.length_append,List.length_cons,List.length_nil] at ih ⊢;omega
theorem optCells_cons(x:Int×Int)(l:List (Int×Int)):optCells (x::l)= [.int .i64 x.1,.int .i64 x.2]++optCells l:=by simp[optCells]
theorem gl_cases {e:TypeId}{sz:Nat}(g:Gl e sz):g.bl= []∨∃b x,g.bl= [(b,x)]:=by
 unfold Gl.bl
 cases g.blk with
 | none=> exact .inl rfl
 | some b=> exact .inr ⟨b,_,rfl⟩
theorem fresh_of {H H':View}{mb:Nat}{L:Bl}{i j b:Nat}{x y:Bool×Obj}(hs:SymSt (H.without mb) L H')(hi:L[i]? =some (b,x))(hj:L[j]? =some (mb,y))(hij:i≠j):H b=none∧b≠mb:=by
 have hne:b≠mb:=by
   rintro rfl
   exact hij (nodup_unique hs.nodup hi hj)
 have h1:=hs.out _ (List.mem_of_getElem? hi)
 rw[without_other hne] at h1
 exact⟨h1,hne⟩
theorem Memo.mono {H H':View}{s:Stg}{l:List MapEntry}(h:Memo H s l)(k:H.le H'):Memo H' s l:=fun e he=> by
 obtain⟨p,i,h1,h2⟩:=h e he
 exact⟨p,i,h1,h2.mono k⟩
def OptQ(s:Stg)(p i mb:Nat)(Hm H:View)(v:Value)(H':View):Prop:=
 (∀b x,b≠mb→H b=some x→H' b=some x)∧∃Hm' es' cl',Hm'.le H'∧(∀b x,Hm' b=some x→Hm b=some x∨H b=none)∧Hm.le Hm'∧Hm' mb=none∧
   SrcAt Hm' 2 v (s.opts p i).length (optCells (s.opts p i))∧H' mb=some (true,.map es' cl')∧Memo Hm' s es'.toList
theorem OptQ.put {s:Stg}{p i mb b:Nat}{x:Bool×Obj}{Hm H H':View}{v:Value}{es':Array MapEntry}{cl':Nat}(h1:∀b x,b≠mb→H b=some x→H' b=some x)(hle:Hm.le H)(hmb:Hm mb=none)(hb:H b=none)(hne:b≠mb)(hx:H' b=some x)
   (h2:SrcAt (Hm.put b x) 2 v (s.opts p i).length (optCells (s.opts p i))) (h3:H' mb=some (true,.map es' cl')) (h4:Memo (Hm.put b x) s es'.toList):OptQ s p i mb Hm H v H':=by
 have hn:Hm b=none:=by
   cases h:Hm b with
   | none=> rfl
   | some y=> rw[hle _ _ h] at hb;cases hb
 refine⟨h1,Hm.put b x,es',cl',fun c y hc=> ?_,fun c y hc=> ?_,View.le_put x hn,by rw[View.put_other _ _ (Ne.symm hne)];exact hmb,h2,h3,h4⟩
 · by_cases e:c=b
   · subst e
     rw[View.put_same] at hc
     cases hc
     exact hx
   · rw[View.put_other _ _ e] at hc
     exact h1 c y (fun e=> by rw[e,hmb] at hc;cases hc) (hle _ _ hc)
 · by_cases e:c=b
   · subst e
     exact .inr hb
   · rw[View.put_other _ _ e] at hc
     exact .inl hc
theorem OptQ.same {s:Stg}{p i mb:Nat}{Hm H H':View}{v:Value}{es':Array MapEntry}{cl':Nat}(h1:∀b x,b≠mb→H b=some x→H' b=some x)(hle:Hm.le H)(hmb:Hm mb=none)
   (h2:SrcAt Hm 2 v (s.opts p i).length (optCells (s.opts p i))) (h3:H' mb=some (true,.map es' cl')) (h4:Memo Hm s es'.toList):OptQ s p i mb Hm H v H':=
 ⟨h1,Hm,es',cl',fun c y hc=> h1 c y (fun e=> by rw[e,hmb] at hc;cases hc) (hle _ _ hc),fun _ _ h=> .inl h,View.le_refl _,hmb,h2,h3,h4⟩
section
variable(M:Md Tryz.prog)(H:View)
theorem options_c(s:Stg)(hok:s.Ok)(eb ec mb:Nat)(es:Array MapEntry)(cl p i:Nat)(hE:EdgesAt H s eb)(hM:H mb=some (true,.map es cl))(Hm:View)(hm:Memo Hm s es.toList)(hle:Hm.le H)(hmb:Hm mb=none)(hi:i<s.ps.length)(hp:p=s.ps[i]?.getD 0):
   CallT M 175 #[s.val eb ec mb,edgeV p i] H (OptQ s p i mb Hm H):=by
 obtain⟨f,ec',et,ez,hE1,hE2⟩:=hE
 have hne:eb≠mb:=by rintro rfl;rw[hE1] at hM;cases hM
 have hE0:(H.without mb) eb=some (f,.cells ⟨ec'⟩ et ez):=by rw[without_other hne];exact hE1
 have hq:=hE2 0 hok.ps0
 have hbase:∀(H':View),(H.without mb).le H'→∀b x,b≠mb→H b=some x→H' b=some x:=fun H' hle b x hb hx=> hle b x (by rw[without_other hb];exact hx)
 refine CallT.enter (vs:= [s.val eb ec mb,edgeV p i]) Tryz.func175 rfl Tryz.ntmps175 (Nat.le_of_ble_eq_true rfl) (SymSt.pull hM) fun St c cs hK=> ?_
 refine .sr ?_
 refine .e (.bx (zz:=fun b2=> ?_))
 refine .e (.bx (zz:=fun b3=> ?_))
 refine .g ?_
 refine .done (.seq (.seq ?_))
 have hq2:decide (i=0)=true↔ [Value.int .i64 (p:Nat),.int .i64 (i:Nat)]= [.int .i64 ((s.ps[0]?.getD 0:Nat):Int),.int .i64 ((0:Nat):Int)]:=by
   simp only[decide_eq_true_eq,List.cons.injEq,Value.int.injEq,true_and,and_true]
   constructor
   · rintro rfl
     rw[hp]
     simp
   · rintro⟨_,h⟩
     omega
 by_cases hi0:i=0
 · subst hi0
   refine Tc.dr [] [] mixed rfl ?_
   refine .q 0 rfl (.ld 0) ?_
   refine .q 1 rfl .fa ?_
   refine .q 2 rfl .fa ?_
   refine .q 3 rfl (.ld 1) ?_
   refine .q 4 rfl .ia ?_
   refine .q 5 rfl .l0 ?_
   refine .q 6 rfl (OpV.eqA (E:=en) true 2 rfl rfl rfl rfl rfl eg169 (by decide) (edge_flat p 0) (edge_flat (s.ps[0]?.getD 0) 0) hq2) ?_
   refine Ta.done (by kernel_rfl) ?_
   refine .tt rfl (.sr ?_)
   refine .x .fa ?_
   refine .x (.ld 1) ?_
   refine .x .bu ?_
   refine .e (.bs (zz:=fun bs=> ?_))
   refine .g ?_
   refine .done ?_
   refine .rt hK Tryz.func175 Tryz.results175 [_] ?_
   intro H' hs
   obtain⟨f1,f2⟩:=fresh_of hs (i:=0) (j:=3) rfl rfl (by decide)
   have hn:Hm bs=none:=by
     cases h:Hm bs with
     | none=> rfl
     | some y=> rw[hle _ _ h] at f1;cases f1
   exact OptQ.put (hbase H' hs.base) hle hmb f1 f2 (hs.get (i:=0) rfl) ⟨⟨_,_,rfl⟩,rfl,.inr ⟨bs,0,1,true,_,_,_,rfl,View.put_same ..,Nat.le_of_ble_eq_true rfl,rfl⟩⟩ (hs.get (i:=3) rfl) (hm.mono (View.le_put _ hn))
 · rw[decide_eq_false hi0] at hq2
   refine Tc.dr [] [] mixed rfl ?_
   refine .q 0 rfl (.ld 0) ?_
   refine .q 1 rfl .fa ?_
   refine .q 2 rfl .fa ?_
   refine .q 3 rfl (.ld 1) ?_
   refine .q 4 rfl .ia ?_
   refine .q 5 rfl .l0 ?_
   refine .q 6 rfl (OpV.eqA (E:=en) false 2 rfl rfl rfl rfl rfl eg169 (by decide) (edge_flat p i) (edge_flat (s.ps[0]?.getD 0) 0) hq2) ?_
   refine Ta.done (by kernel_rfl) ?_
   refine .ff rfl (.skip (.sr ?_))
   refine .x .fa ?_
   refine .x (.ld 1) ?_
   refine .x (.ld 0) ?_
   refine .e (Or.lookup (E:=en) 2 rfl rfl rfl (fun H' hs=> ⟨true,hs.get (i:=2) rfl⟩) rfl rfl rfl (by decide) (edge_key p i) hm.keys rfl (by decide) (fun r hr=> ?_))
   cases r with
   | some x=>
     obtain⟨j,v⟩:=x
     obtain⟨e,h1,h2,rfl⟩:=hr
     obtain⟨q,k,h3,h4⟩:=hm e (List.mem_of_getElem? h1)
     rw[h2] at h3
     obtain⟨rfl,rfl⟩:=edgeV_inj.1 h3
     refine .m ?_
     refine .x .et ?_
     refine .x .et ?_
     refine .g ?_
     refine .g ?_
     refine .done (.seq (.sr ?_))
     refine .m ?_
     refine .done (.tt rfl (.sr ?_))
     refine .m ?_
     refine .g ?_
     refine .done ?_
     refine .rt hK Tryz.func175 Tryz.results175 [_] ?_
     exact fun H' hs=> OptQ.same (hbase H' hs.base) hle hmb h4 (hs.get (i:=2) rfl) hm
   | none=>
     have p1:=hok.places i hi
     rw[←hp] at p1
     have p0:=hok.places 0 hok.ps0
     obtain⟨s1,s2⟩:=hok.send
     obtain⟨l1,l2⟩:=hok.lean
     obtain⟨q1,q2⟩:=hok.first
     have b1:=still_in (place:=(p:Nat)) (number:=(i:Nat)) (by omega) (by omega) s1 s2 l1 l2
     have b0:=still_in (place:=((s.ps[0]?.getD 0:Nat):Int)) (number:=0) (by omega) (by omega) s1 s2 l1 l2
     refine .m ?_
     refine .x .et ?_
     refine .x .et ?_
     refine .g ?_
     refine .g ?_
     refine .done (.seq (.sr ?_))
     refine .m ?_
     refine .done (.ff rfl (.skip (.seq ?_)))
     refine Tc.dr [] [] mixed rfl ?_
     refine .q 0 rfl (.ld 0) ?_
     refine .q 1 rfl .fa ?_
     refine .q 2 rfl (.ld 1) ?_
     refine .q 3 rfl .fa ?_
     refine .q 4 rfl (.ld 1) ?_
     refine .z 5 rfl (OpV.takeCall rfl rfl rfl rfl (fun H hs=> .f ca172 rfl (still_c M H p i s.send s.lean (by omega) (by omega) (by omega) s1 s2 l1 l2))) ?_
     refine .q 6 rfl .fa ?_
     refine .q 7 rfl .fa ?_
     refine .q 8 rfl (.ld 1) ?_
     refine .q 9 rfl .ia ?_
     refine .q 10 rfl .l0 ?_
     refine .q 11 rfl .fa ?_
     refine .q 12 rfl (.ld 1) ?_
     refine .q 13 rfl .fa ?_
     refine .q 14 rfl (.ld 1) ?_
     refine .z 15 rfl (OpV.takeCall rfl rfl rfl rfl (fun H hs=> .f ca172 rfl (still_c M H (s.ps[0]?.getD 0:Nat) 0 s.send s.lean (by omega) (by omega) (by omega) s1 s2 l1 l2))) ?_
     refine .q 16 rfl (.it (zz:=sub_in (by omega) (by omega))) ?_
     refine .q 17 rfl .fa ?_
     refine .q 18 rfl (.ld 1) ?_
     refine .q 19 rfl (.it (zz:=sub_in (by omega) (by omega))) ?_
     refine .q 20 rfl .sg ?_
     refine Ta.done (by kernel_rfl) ?_
     refine .seq (.sr ?_)
     refine .x .fa ?_
     refine .x .fa ?_
     refine .x (.ld 1) ?_
     refine .g ?_
     refine .done ?_
     have w1: -16000≤s.after p i∧s.after p i≤16000:=by unfold Stg.after;omega
     have hopts:s.opts p i=optGo s.read s.mt (s.after p i) (s.mt+1-s.mf).toNat s.mf:=by unfold Stg.opts;rw[if_neg hi0]
     have mf1:=hok.mf
     have mt1:=hok.mt
     obtain⟨r1,r2⟩:=hok.read
     refine blockVia (fun R' L'=> ∃g:Gl 221 2,g.l=optCells (s.opts p i)∧R'= [(5,g.val),(2,.pointer (some ⟨b2,0,none⟩)),(3,.pointer (some ⟨b3,0,none⟩))]∧
       L'=(b3,true,.cells ⟨(edgeV p i).cells.toList⟩ 169 (0,0))::(b2,true,.cells ⟨(s.val eb ec mb).cells.toList⟩ 183 (0,0))::(mb,true,.map es cl)::g.bl) ?_ (fun fin=> ?_)
     · rintro _ _ ⟨g,hg,rfl,rfl⟩
       refine .sr ?_
       refine .x .fa ?_
       refine .x (.ld 1) ?_
       refine .x (.ld 0) ?_
       refine .m ?_
       refine .e (Or.mapUpdate (E:=en) 2 2 rfl rfl rfl rfl rfl rfl rfl (by decide) (edge_key p i) hm.keys rfl (fun r hr'=> ?_))
       refine .done (.sr ?_)
       refine .m ?_
       refine .g ?_
       refine .done ?_
       refine .rt hK Tryz.func175 Tryz.results175 [_] ?_
       intro H' hs
       have hlen:g.n=(s.opts p i).length:=by
         have h3:=g.hl
         rw[hg,optCells_len] at h3
         omega
       have hsrc:∀Hv:View,(∀y∈g.bl,Hv y.1=some y.2)→SrcAt Hv 2 g.val (s.opts p i).length (optCells (s.opts p i)):=fun Hv hv=> by
         have h1:=g.src (H:=Hv) hv
         rw[hlen,hg] at h1
         exact h1
       cases r with
       | some x=>
         obtain⟨j,w⟩:=x
         obtain⟨e,h1,h2,_⟩:=hr'
         exact absurd h2 (hr e (List.mem_of_getElem? h1))
       | none=>
         have hmem:∀Hv:View,Hm.le Hv→SrcAt Hv 2 g.val (s.opts p i).length (optCells (s.opts p i))→Memo Hv s (es.push ⟨edgeV p i,g.val,cl⟩).toList:=fun Hv hv hsv e he=> by
           simp only[Array.toList_push,List.mem_append,List.mem_singleton] at he
           rcases he with he|rfl
           · exact hm.mono hv e he
           · exact⟨p,i,rfl,hsv⟩
         rcases gl_cases g with h0|⟨gb,gx,h0⟩
         · have h5:=hsrc Hm (by rw[h0];simp)
           exact OptQ.same (hbase H' hs.base) hle hmb h5 (hs.get (i:=2) rfl) (hmem Hm (View.le_refl _) h5)
         · rw[h0] at hs
           obtain⟨f1,f2⟩:=fresh_of hs (i:=3) (j:=2) rfl rfl (by decide)
           have hn:Hm gb=none:=by
             cases h:Hm gb with
             | none=> rfl
             | some y=> rw[hle _ _ h] at f1;cases f1
           have h5:=hsrc (Hm.put gb gx) (by rw[h0];simp[View.put_same])
           exact OptQ.put (hbase H' hs.base) hle hmb f1 f2 (hs.get (i:=3) rfl) h5 (hs.get (i:=2) rfl) (hmem _ (View.le_put _ hn) h5)
     · refine Tc.db (Tc.loopInv (σ:= { x:Int×Nat×Gl 221 2 // -1000≤x.1∧x.1≤40000∧(s.mt+1-x.1).toNat≤x.2.1∧x.2.2.n+x.2.1≤5000∧x.2.2.l++optCells (optGo s.read s.mt (s.after p i) x.2.1 x.1)=optCells (s.opts p i) })
         (fun x=> ([(8,.int .i64 x.1.1),(7,.int .i64 (s.after p i)),(5,x.1.2.2.val),(2,.pointer (some ⟨b2,0,none⟩)),(3,.pointer (some ⟨b3,0,none⟩))],
           (b3,true,.cells ⟨(edgeV p i).cells.toList⟩ 169 (0,0))::(b2,true,.cells ⟨(s.val eb ec mb).cells.toList⟩ 183 (0,0))::(mb,true,.map es cl)::x.1.2.2.bl)) (fun x=> x.1.2.1) ?_
         ⟨(s.mf,(s.mt+1-s.mf).toNat,Gl.nil 221 2),mf1.1,by show s.mf≤_;omega,Nat.le_refl _,by show 0+(s.mt+1-s.mf).toNat≤_;omega,by rw[hopts];rfl⟩)
       rintro⟨⟨n,f,g⟩,g1,g2,g3,g4,g5⟩ ih
       simp only at g1 g2 g3 g4 g5
       show Tc M St _ _ _ _ [(8,.int .i64 n),(7,.int .i64 (s.after p i)),(5,g.val),(2,.pointer (some ⟨b2,0,none⟩)),(3,.pointer (some ⟨b3,0,none⟩))]
           ((b3,true,.cells ⟨(edgeV p i).cells.toList⟩ 169 (0,0))::(b2,true,.cells ⟨(s.val eb ec mb).cells.toList⟩ 183 (0,0))::(mb,true,.map es cl)::g.bl) _ _
       by_cases c1:n≤s.mt
       · obtain⟨f,rfl⟩:∃f',f=f'+1:=⟨f-1,by omega⟩
         obtain⟨m1,m2,m3⟩:=missedF_in s.read (s.after p i+n)
         have hc:=missed_c M H s.read (s.after p i+n) (by omega) (by omega)
         unfold optGo at g5
         rw[if_pos c1,optCells_cons,←List.append_assoc] at g5
         generalize hmm:missedF s.read (s.after p i+n)=m at m1 m2 m3 g5
         have x1:0≤(2*m+1)*s.read:=Int.mul_nonneg (by omega) (by omega)
         have x2:(2*m+1)*s.read≤15*1000:=Int.mul_le_mul (by omega) r2 (by omega) (by omega)
         refine .seq (.sr ?_)
         refine .m ?_
         refine .x .fa ?_
         refine .x .fa ?_
         refine .x (.ld 1) ?_
         refine .i ?_ (z:=leq_t (by omega))
         refine .done (.tt rfl (.skip (.block (.sr ?_))))
         refine .x .fa ?_
         refine .x (.ld 1) ?_
         refine .m ?_
         refine .m ?_
         refine .i ?_ (z:=add_in (by omega) (by omega))
         refine .c rfl rfl rfl rfl (fun H hs=> .f ca139 rfl (hmm▸missed_c M H s.read (s.after p i+n) (by omega) (by omega))) ?_
         refine .m ?_
         refine .x .bu ?_
         refine .e (.al (zz:=fun b9=> ?_))
         refine .e (.st 0 (zz:=?_))
         refine .done (.sr ?_)
         refine .m ?_
         refine .x (.ld 0) ?_
         refine .e (.bs (zz:=fun bs=> ?_))
         refine .e (Or.append (E:=en) 5 rfl rfl rfl rfl rfl rfl rfl rfl rfl rfl rfl rfl rfl rfl rfl (fun H hs=> SrcAt.of (hs.get (i:=0) rfl) (Nat.le_of_ble_eq_true rfl)) rfl (by omega) rfl (by decide) (fun g' hn hl=> ?_))
         refine .g ?_
         refine .done ?_
         have hl':g'.l=g.l++[.int .i64 m,.int .i64 n]:=hl
         refine .seq (.seq ?_)
         by_cases c7:m=7
         · subst c7
           rw[if_pos rfl] at g5
           have hfin:g'.l=optCells (s.opts p i):=by
             rw[hl',←g5]
             simp[optCells]
           refine .r ?_
           refine .x .fa ?_
           refine .x (.ld 1) ?_
           refine .i ?_ (z:=eql_t (by omega))
           refine .done (.tt rfl (.exit rfl ?_))
           have hf:=fin _ _ ⟨g',hfin,rfl,rfl⟩
           exact Tc.db hf
         · rw[if_neg c7] at g5
           refine .r ?_
           refine .x .fa ?_
           refine .x (.ld 1) ?_
           refine .i ?_ (z:=eql_f (by omega))
           refine .done (.ff rfl (.skip (.r ?_)))
           refine .x .fa ?_
           refine .x (.ld 1) ?_
           refine .i ?_ (z:=mul_in (by omega) (by omega))
           refine .i ?_ (z:=add_in (by omega) (by omega))
           refine .x .fa ?_
           refine .x (.ld 3) ?_
           refine .i ?_ (z:=mul_in (by omega) (by omega))
           refine .i ?_ (z:=add_in (by omega) (by omega))
           refine .m ?_
           refine .i ?_ (z:=sub_in (by omega) (by omega))
           refine .g ?_
           refine .done (.inBlock ?_)
           have x3:=m3 c7
           exact Tc.db (ih ⟨((2*m+1)*s.read+1-s.after p i,f,g'),by simp only;omega,by simp only;omega,by simp only;omega,by simp only;omega,by simp only;rw[hl'];exact g5⟩ (by simp))
       · have c2:optGo s.read s.mt (s.after p i) f n= []:=by
           cases f with
           | zero=> rfl
           | succ f=> unfold optGo;rw[if_neg c1]
         rw[c2] at g5
         refine .seq (.sr ?_)
         refine .m ?_
         refine .x .fa ?_
         refine .x .fa ?_
         refine .x (.ld 1) ?_
         refine .i ?_ (z:=leq_f (by omega))
         refine .done (.ff rfl (.exit rfl ?_))
         exact Tc.db (fin _ _ ⟨g,by simpa [optCells] using g5,rfl,rfl⟩)
end
end Go.Proofs.YtpdaenfglbgfkaaGreatDoor
end
section
namespace Go.Proofs.YtpdaenfglbgfkaaGreatDoor
open Go.RL
set_option maxRecDepth 10000
structure Lk where
 s0:Int
 s1:Int
 r0:Int
 r1:Int
 l0:Int
 l1:Int
 m0:Int
 m1:Int
def Lk.val(k:Lk):Value:=.agg ⟨[.int .i64 k.s0,.int .i64 k.s1,.int .i64 k.r0,.int .i64 k.r1,.int .i64 k.l0,.int .i64 k.l1,.int .i64 k.m0,.int .i64 k.m1]⟩
def paceOk(a b:Int):Bool:=decide (1≤a∧a≤b∧b≤40∧b-a<3)
def leanOk(a b:Int):Bool:=decide (-9≤a∧a≤b∧b≤9∧b-a<3)
def moveOk(a b:Int):Bool:=decide (-12≤a∧a≤b∧b≤12∧b-a<25)
def Lk.sends(k:Lk):Bool:=paceOk k.s0 k.s1
def Lk.reads(k:Lk):Bool:=paceOk k.r0 k.r1
def Lk.leans(k:Lk):Bool:=leanOk k.l0 k.l1
def Lk.moves(k:Lk):Bool:=moveOk k.m0 k.m1
section
variable(M:Md Tryz.prog)(H:View)
theorem isPaces_c(a b:Int):CallT M 129 #[bandV a b] H (fun v H'=> H.le H'∧v=.bool (decide (1≤a∧a≤b∧b≤40∧b-a<3))):=by
 refine CallT.enter (vs:= [bandV a b]) Tryz.func129 rfl Tryz.ntmps129 (Nat.le_of_ble_eq_true rfl) (SymSt.nil _) fun St c cs hK=> ?_
 refine .sr ?_
 refine .e (.bx (zz:=fun b1=> ?_))
 refine .g ?_
 refine .done (.sr ?_)
 refine .x (.ld 0) ?_
 refine .c rfl rfl rfl rfl (fun H hs=> .f ca155 rfl (bandOf_c M H a b)) ?_
 refine .c rfl rfl rfl rfl (fun H hs=> .f ca168 rfl (within_c M H a b 1 40 3 (by omega) (by omega))) ?_
 refine .g ?_
 refine .done ?_
 refine .rt hK Tryz.func129 Tryz.results129 [_] ?_
 exact fun H' hs=> ⟨hs.base,rfl⟩
theorem sends_c(k:Lk):CallT M 250 #[k.val] H (fun v H'=> H.le H'∧v=.bool k.sends):=by
 refine CallT.enter (vs:= [k.val]) Tryz.func250 rfl Tryz.ntmps250 (Nat.le_of_ble_eq_true rfl) (SymSt.nil _) fun St c cs hK=> ?_
 refine .sr ?_
 refine .e (.bx (zz:=fun b1=> ?_))
 refine .g ?_
 refine .done (.sr ?_)
 refine .x .fa ?_
 refine .x .fa ?_
 refine .x (.ld 0) ?_
 refine .c rfl rfl rfl rfl (fun H hs=> .f ca129 rfl (isPaces_c M H k.s0 k.s1)) ?_
 refine .g ?_
 refine .done ?_
 refine .rt hK Tryz.func250 Tryz.results250 [_] ?_
 exact fun H' hs=> ⟨hs.base,rfl⟩
theorem reads_c(k:Lk):CallT M 251 #[k.val] H (fun v H'=> H.le H'∧v=.bool k.reads):=by
 refine CallT.enter (vs:= [k.val]) Tryz.func251 rfl Tryz.ntmps251 (Nat.le_of_ble_eq_true rfl) (SymSt.nil _) fun St c cs hK=> ?_
 refine .sr ?_
 refine .e (.bx (zz:=fun b1=> ?_))
 refine .g ?_
 refine .done (.sr ?_)
 refine .x .fa ?_
 refine .x .fa ?_
 refine .x (.ld 0) ?_
 refine .c rfl rfl rfl rfl (fun H hs=> .f ca129 rfl (isPaces_c M H k.r0 k.r1)) ?_
 refine .g ?_
 refine .done ?_
 refine .rt hK Tryz.func251 Tryz.results251 [_] ?_
 exact fun H' hs=> ⟨hs.base,rfl⟩
theorem leans_c(k:Lk):CallT M 248 #[k.val] H (fun v H'=> H.le H'∧v=.bool k.leans):=by
 refine CallT.enter (vs:= [k.val]) Tryz.func248 rfl Tryz.ntmps248 (Nat.le_of_ble_eq_true rfl) (SymSt.nil _) fun St c cs hK=> ?_
 refine .sr ?_
 refine .e (.bx (zz:=fun b1=> ?_))
 refine .g ?_
 refine .done (.sr ?_)
 refine .x .fa ?_
 refine .x .fa ?_
 refine .x .fa ?_
 refine .x (.ld 0) ?_
 refine .c rfl rfl rfl rfl (fun H hs=> .f ca155 rfl (bandOf_c M H k.l0 k.l1)) ?_
 refine .c rfl rfl rfl rfl (fun H hs=> .f ca168 rfl (within_c M H k.l0 k.l1 (-9) 9 3 (by omega) (by omega))) ?_
 refine .g ?_
 refine .done ?_
 refine .rt hK Tryz.func248 Tryz.results248 [_] ?_
 exact fun H' hs=> ⟨hs.base,rfl⟩
theorem moves_c(k:Lk):CallT M 252 #[k.val] H (fun v H'=> H.le H'∧v=.bool k.moves):=by
 refine CallT.enter (vs:= [k.val]) Tryz.func252 rfl Tryz.ntmps252 (Nat.le_of_ble_eq_true rfl) (SymSt.nil _) fun St c cs hK=> ?_
 refine .sr ?_
 refine .e (.bx (zz:=fun b1=> ?_))
 refine .g ?_
 refine .done (.sr ?_)
 refine .x .fa ?_
 refine .x .fa ?_
 refine .x .fa ?_
 refine .x (.ld 0) ?_
 refine .c rfl rfl rfl rfl (fun H hs=> .f ca155 rfl (bandOf_c M H k.m0 k.m1)) ?_
 refine .c rfl rfl rfl rfl (fun H hs=> .f ca168 rfl (within_c M H k.m0 k.m1 (-12) 12 25 (by omega) (by omega))) ?_
 refine .g ?_
 refine .done ?_
 refine .rt hK Tryz.func252 Tryz.results252 [_] ?_
 exact fun H' hs=> ⟨hs.base,rfl⟩
def allTo(p:Nat→Bool):Nat→Bool
 | 0=> true
 | k+1=> allTo p k&&p k
theorem allTo_false {p:Nat→Bool}{k:Nat}(h:allTo p k=false):∀m,k≤m→allTo p m=false:=by
 intro m hm
 induction m with
 | zero=>
   have:k=0:=by omega
   subst this
   exact h
 | succ m ih=>
   by_cases e:k=m+1
   · subst e;exact h
   · rw[allTo,ih (by omega)]
     rfl
theorem check_c(kv:List Value)(gb off m cc:Nat)(f:Bool)(gs:List Value)(gt:TypeId)(gz:Nat×Nat)(fv:Nat→Value)(p:Nat→Bool)(hm:m≤1000)(hk8:kv.length=8)(hG:H gb=some (f,.cells ⟨gs⟩ gt gz))(hG2:∀i:Nat,i<m→ldL false 1 gs (off+i*1)=some (fv i))
   (hp:∀i:Nat,i<m→∀H',H.le H'→FnT M (fv i) [.agg ⟨kv⟩] H' fun v H''=> H'.le H''∧v=.bool (p i)):
   CallT M 142 #[.agg ⟨kv⟩,.slice (some ⟨gb,off,none⟩) m cc] H (fun v H'=> H.le H'∧v=.int .i64 (if allTo p m then 0 else 1)):=by
 obtain⟨a0,a1,a2,a3,a4,a5,a6,a7,rfl⟩:∃a0 a1 a2 a3 a4 a5 a6 a7,kv= [a0,a1,a2,a3,a4,a5,a6,a7]:=by
   match kv,hk8 with
   | [a0,a1,a2,a3,a4,a5,a6,a7],_=> exact⟨a0,a1,a2,a3,a4,a5,a6,a7,rfl⟩
 refine CallT.enter (vs:= [.agg ⟨[a0,a1,a2,a3,a4,a5,a6,a7]⟩,.slice (some ⟨gb,off,none⟩) m cc]) Tryz.func142 rfl Tryz.ntmps142 (Nat.le_of_ble_eq_true rfl) (SymSt.nil _) fun St c cs hK=> ?_
 refine .sr ?_
 refine .e (.bx (zz:=fun b2=> ?_))
 refine .g ?_
 refine .done (.seq (.sr ?_))
 refine .m ?_
 refine .x .ln ?_
 refine .m ?_
 refine .done (.block ?_)
 refine Tc.db (Tc.loopInv (σ:= { k:Nat//k≤m∧allTo p k=true })
   (fun s=> ([(9,.int .i64 (s.1:Nat)),(8,.int .i64 m),(7,.slice (some ⟨gb,off,none⟩) m cc),(2,.pointer (some ⟨b2,0,none⟩))],[(b2,true,.cells ⟨[a0,a1,a2,a3,a4,a5,a6,a7]⟩ 109 (0,0))])) (fun s=> m-s.1) ?_ ⟨0,by simp,rfl⟩)
 rintro⟨k,g1,g2⟩ ih
 show Tc M St _ _ _ _ [(9,.int .i64 (k:Nat)),(8,.int .i64 m),(7,.slice (some ⟨gb,off,none⟩) m cc),(2,.pointer (some ⟨b2,0,none⟩))] [(b2,true,.cells ⟨[a0,a1,a2,a3,a4,a5,a6,a7]⟩ 109 (0,0))] _ _
 by_cases c1:k=m
 · subst c1
   refine .sr ?_
   refine .i ?_ (z:=lss_f (by omega))
   refine .done (.seq (.ff rfl (.exit rfl (.sr ?_))))
   refine .g ?_
   refine .done ?_
   refine .rt hK Tryz.func142 Tryz.results142 [_] ?_
   exact fun H' hs=> ⟨hs.base,by rw[g2];rfl⟩
 · have c2:k<m:=by omega
   have f1:ldL false 1 gs (off+(k:Int).toNat*1)=some (fv k):=by rw[show(k:Int).toNat=k by simp];exact hG2 k c2
   cases hpk:p k with
   | true=>
     refine .sr ?_
     refine .i ?_ (z:=lss_t (by omega))
     refine .done (.seq (.tt rfl (.skip (.seq (.block (.sr ?_))))))
     refine .x .ia ?_
     refine .x .l0 ?_
     refine .g ?_
     refine .done (.sr ?_)
     refine .m ?_
     refine .x (.ld 0) ?_
     refine .c rfl rfl rfl rfl (fun H hs=> hpk▸hp k c2 H hs.base) ?_
     refine .x .nt ?_
     refine .done (.ff rfl (.skip (.inBlock (.r ?_))))
     refine .i ?_ (z:=add_in (by omega) (by omega))
     refine .m ?_
     refine .done ?_
     exact Tc.db (ih ⟨k+1,by omega,by rw[allTo,g2,hpk];rfl⟩ (by simp only;omega))
   | false=>
     have h2:=allTo_false (p:=p) (k:=k+1) (by rw[allTo,hpk];simp) m (by omega)
     refine .sr ?_
     refine .i ?_ (z:=lss_t (by omega))
     refine .done (.seq (.tt rfl (.skip (.seq (.block (.sr ?_))))))
     refine .x .ia ?_
     refine .x .l0 ?_
     refine .g ?_
     refine .done (.sr ?_)
     refine .m ?_
     refine .x (.ld 0) ?_
     refine .c rfl rfl rfl rfl (fun H hs=> hpk▸hp k c2 H hs.base) ?_
     refine .x .nt ?_
     refine .done (.tt rfl (.sr ?_))
     refine .g ?_
     refine .done ?_
     refine .rt hK Tryz.func142 Tryz.results142 [_] ?_
     exact fun H' hs=> ⟨hs.base,by rw[h2];rfl⟩
end
end Go.Proofs.YtpdaenfglbgfkaaGreatDoor
end
section
namespace Go.Proofs.YtpdaenfglbgfkaaGreatDoor
open Go.RL
set_option maxRecDepth 10000
def chkF(i:Nat):Value:=.func (.func ([250,251,248,252][i]?.getD 0)) #[] #[]
def Glob(H:View):Prop:=∃f gt gz,H 0=some (f,.cells ⟨[chkF 0,chkF 1,chkF 2,chkF 3]⟩ gt gz)
def Lk.chk(k:Lk)(i:Nat):Bool:= [k.sends,k.reads,k.leans,k.moves][i]?.getD true
def Lk.ok(k:Lk):Bool:=allTo k.chk 4
def Lk.lineOk(k:Lk):Bool:=allTo (fun i=> k.chk (2+i)) 2
section
variable(M:Md Tryz.prog)(H:View)
theorem chk_c(k:Lk)(i:Nat)(hi:i<4)(H':View):FnT M (chkF i) [k.val] H' fun v H''=> H'.le H''∧v=.bool (k.chk i):=by
 match i,hi with
 | 0,_=> exact FnT.f ca250 rfl (sends_c M H' k)
 | 1,_=> exact FnT.f ca251 rfl (reads_c M H' k)
 | 2,_=> exact FnT.f ca248 rfl (leans_c M H' k)
 | 3,_=> exact FnT.f ca252 rfl (moves_c M H' k)
theorem checkLink_c(k:Lk)(hG:Glob H):CallT M 86 #[k.val] H (fun v H'=> H.le H'∧v=.int .i64 (if k.ok then 0 else 1)):=by
 obtain⟨f,gt,gz,hG⟩:=hG
 refine CallT.enter (vs:= [k.val]) Tryz.func86 rfl Tryz.ntmps86 (Nat.le_of_ble_eq_true rfl) (SymSt.nil _) fun St c cs hK=> ?_
 refine .sr ?_
 refine .e (.bx (zz:=fun b1=> ?_))
 refine .g ?_
 refine .done (.seq ?_)
 refine Tc.dr [] [] mixed rfl ?_
 refine .q 0 rfl (.ld 0) ?_
 refine .q 1 rfl .bu ?_
 refine .q 2 rfl (OpV.sliceA (E:=en) (off':=0) rfl rfl rfl rfl rfl rfl rfl rfl (by decide) (by decide) (by decide) (by rw[if_neg (by decide)];rfl)) ?_
 refine .z 3 rfl (OpV.takeCall rfl rfl rfl rfl (fun H hs=> .f ca142 rfl (check_c M H _ 0 0 4 4 f _ gt gz chkF k.chk (by omega) rfl (hs.base _ _ hG) (fun i hi=> by match i,hi with|0,_=> rfl|1,_=> rfl|2,_=> rfl|3,_=> rfl) (fun i hi H' _=> chk_c M k i hi H')))) ?_
 refine .q 4 rfl .sg ?_
 refine Ta.done (by kernel_rfl) ?_
 refine .rt hK Tryz.func86 Tryz.results86 [_] ?_
 exact fun H' hs=> ⟨hs.base,rfl⟩
theorem checkLine_c(x y z u:Int)(hG:Glob H):CallT M 126 #[.agg ⟨[.int .i64 x,.int .i64 y,.int .i64 z,.int .i64 u]⟩] H (fun v H'=> H.le H'∧v=.int .i64 (if(⟨0,0,0,0,x,y,z,u⟩:Lk).lineOk then 0 else 1)):=by
 obtain⟨f,gt,gz,hG⟩:=hG
 refine CallT.enter (vs:= [.agg ⟨[.int .i64 x,.int .i64 y,.int .i64 z,.int .i64 u]⟩]) Tryz.func126 rfl Tryz.ntmps126 (Nat.le_of_ble_eq_true rfl) (SymSt.nil _) fun St c cs hK=> ?_
 refine .sr ?_
 refine .e (.bx (zz:=fun b1=> ?_))
 refine .g ?_
 refine .done (.seq ?_)
 refine Tc.dr [] [] mixed rfl ?_
 refine .q 0 rfl (.ld 0) ?_
 refine .q 1 rfl .bu ?_
 refine .q 2 rfl .bu ?_
 refine .q 3 rfl (OpV.sliceA (E:=en) (off':=2) rfl rfl rfl rfl rfl rfl rfl rfl (by decide) (by decide) (by decide) (by rw[if_neg (by decide)];rfl)) ?_
 refine .z 4 rfl (OpV.takeCall rfl rfl rfl rfl (fun H hs=> .f ca142 rfl (check_c M H _ 0 2 2 2 f _ gt gz (fun i=> chkF (2+i)) (fun i=> (⟨0,0,0,0,x,y,z,u⟩:Lk).chk (2+i)) (by omega) rfl (hs.base _ _ hG) (fun i hi=> by match i,hi with|0,_=> rfl|1,_=> rfl) (fun i hi H' _=> chk_c M ⟨0,0,0,0,x,y,z,u⟩ (2+i) (by omega) H')))) ?_
 refine .q 5 rfl .sg ?_
 refine Ta.done (by kernel_rfl) ?_
 refine .rt hK Tryz.func126 Tryz.results126 [_] ?_
 exact fun H' hs=> ⟨hs.base,rfl⟩
end
end Go.Proofs.YtpdaenfglbgfkaaGreatDoor
end
section
namespace Go.Proofs.YtpdaenfglbgfkaaGreatDoor
open Go.RL
set_option maxRecDepth 10000
theorem gl_nodup {e:TypeId}{sz:Nat}(g:Gl e sz):(g.bl.map (·.1)).Nodup:=by
 unfold Gl.bl
 split <;> simp
def letterV(code:Nat)(g:Gl 169 2):Value:=.agg ⟨[.int .i64 code,g.val]⟩
def lk0:Lk:=⟨0,0,0,0,0,0,0,0⟩
theorem glob_le {H H':View}(h:Glob H)(k:H.le H'):Glob H':=by
 obtain⟨f,gt,gz,h⟩:=h
 exact⟨f,gt,gz,k _ _ h⟩
section
variable(M:Md Tryz.prog)(H:View)
theorem checkLink_good(k:Lk)(hG:Glob H)(h:k.ok=true):CallT M 86 #[k.val] H (fun v H'=> H.le H'∧v=.int .i64 0):=
 CallT.mono (checkLink_c M H k hG) fun v H' ⟨h1,h2⟩=> ⟨h1,by rw[h2,h];rfl⟩
theorem isCode_yes(x:Int)(h:0≤x∧x≤31):CallT M 141 #[.int .i64 x] H (fun v H'=> H.le H'∧v=.bool true):=
 CallT.mono (isCode_c M H x) fun v H' ⟨h1,h2⟩=> ⟨h1,by rw[h2,decide_eq_true h]⟩
theorem open_yes(k:Lk)(code:Nat)(hG:Glob H)(hk:k.ok=true)(hc:code<32):CallT M 89 #[k.val,.int .i64 code] H (fun v H'=> H.le H'∧∃g:Gl 169 2,v=.tuple ⟨[k.val,letterV code g,.int .i64 0]⟩∧(g.n=(placesTo code 7).length∧g.l=edgeCells (placesTo code 7))∧∀y∈g.bl,H' y.1=some y.2∧H y.1=none):=by
 refine CallT.enter (vs:= [k.val,.int .i64 code]) Tryz.func89 rfl Tryz.ntmps89 (Nat.le_of_ble_eq_true rfl) (SymSt.nil _) fun St c cs hK=> ?_
 refine .sr ?_
 refine .e (.bx (zz:=fun b2=> ?_))
 refine .e (.al (zz:=fun b4=> ?_))
 refine .e (.al (zz:=fun b5=> ?_))
 refine .g ?_
 refine .done (.seq (.sr ?_))
 refine .x (.ld 2) ?_
 refine .c rfl rfl rfl rfl (fun H hs=> .f ca86 rfl (checkLink_good M H k (glob_le hG hs.base) hk)) ?_
 refine .g ?_
 refine .done (.sr ?_)
 refine .m ?_
 refine .i ?_ (z:=neq_f (by omega))
 refine .done (.ff rfl (.skip (.seq (.sr ?_))))
 refine .m ?_
 refine .c rfl rfl rfl rfl (fun H hs=> .f ca141 rfl (isCode_yes M H code (by omega))) ?_
 refine .x .nt ?_
 refine .done (.ff rfl (.skip (.seq ?_)))
 refine Tc.dr [4,5] [0,1] mixed rfl ?_
 refine .q 0 rfl (.ld 2) ?_
 refine .q 1 rfl .bu ?_
 refine Ta.tkw 2 (by kernel_rfl) rfl rfl rfl (by decide) rfl rfl (OpV.take .mv) ?_
 refine Ta.each [3] (by kernel_rfl) rfl ⟨TaOp.mk rfl rfl rfl (Or.callNew (letterV code) Gl.bl (fun g=> g.n=(placesTo code 7).length∧g.l=edgeCells (placesTo code 7)) rfl rfl rfl rfl rfl (by decide) gl_nodup (fun H hs=> .f ca113 rfl (CallT.mono (letterOf_c M H code hc) (by rintro v H' ⟨h1,g,h2,h3,h4,h5⟩;exact⟨h1,g,h2,⟨h3,h4⟩,h5⟩))) (fun g hg=> ⟨S2.mk (by apply List.Sublist.cons;apply List.Sublist.cons;exact List.sublist_append_left _ _) (.inr (by exact List.sublist_append_left _ _)),?_⟩)),trivial⟩
 refine Ta.each [4] (by kernel_rfl) rfl ⟨TaOp.mk rfl rfl rfl (.st 1 (zz:=⟨S2.mk (by apply List.Sublist.cons;apply List.Sublist.cons;exact List.sublist_append_left _ _) (.inl (by kernel_rfl)),?_⟩)),trivial⟩
 refine Ta.each [5] (by kernel_rfl) rfl ⟨TaOp.mk rfl rfl rfl (.st 0 (zz:=⟨S2.mk (by apply List.Sublist.cons;apply List.Sublist.cons;exact List.sublist_append_left _ _) (.inl (by kernel_rfl)),?_⟩)),trivial⟩
 refine Ta.tkw 6 (by kernel_rfl) rfl rfl rfl (by decide) rfl rfl (OpV.take .sg) ?_
 refine Ta.done (by kernel_rfl) ?_
 refine Tc.retN (E:=en) hK Tryz.func89 Tryz.results89 (vs:= [_,_,_]) (by refine⟨⟨1,_,_,_,_,_,_,_,rfl,rfl,rfl,rfl⟩,?_⟩;refine⟨⟨0,_,_,_,_,_,_,_,rfl,rfl,rfl,rfl⟩,?_⟩;refine⟨rfl,?_⟩;exact trivial) ?_
 exact fun H' hs=> ⟨hs.base,g,rfl,hg,fun y hy=> ⟨hs.at_ y (List.mem_cons_of_mem _ (List.mem_cons_of_mem _ (List.mem_cons_of_mem _ hy))),hs.out y (List.mem_cons_of_mem _ (List.mem_cons_of_mem _ (List.mem_cons_of_mem _ hy)))⟩⟩
end
end Go.Proofs.YtpdaenfglbgfkaaGreatDoor
end
section
namespace Go.RL
open Go.Conc Go.ConcN Go.RL.Au
open Go.ConcR (stA smA)
open Go.ConcM (muA OsLater)
section
variable {X:Fk}{B:View}{base N:Nat}{os0:Os0}{w w':World}{t:Trace}{ths:List Th}{m m':Mn}{s s':Sh}{H:Nat→View}{D:Nat→Bool}{fn:FuncId}{pos:String}
theorem set_get {ths:List Th}{κ:Nat}{T T':Th}(hκ:ths[κ]? =some T):∀(κ':Nat) T'',(ths.set κ T')[κ']? =some T''→(κ'=κ∧T''=T')∨(κ'≠κ∧ths[κ']? =some T''):=fun κ' T'' h'=> by
 by_cases e:κ=κ'
 · subst e
   rw[List.getElem?_set_self (List.getElem?_eq_some_iff.1 hκ).1] at h'
   cases h'
   exact .inl ⟨rfl,rfl⟩
 · rw[List.getElem?_set_ne e] at h'
   exact .inr ⟨Ne.symm e,h'⟩
theorem owns_own {T:Th}(h:T.owns=true):T.own=1:=by cases T <;> simp[Th.owns] at h <;> rfl
theorem Au.Inv.one {n:Nat}(hv:Inv n ths m s){κ κ':Nat}{T T':Th}(h1:ths[κ]? =some T)(h2:ths[κ']? =some T')(hne:κ≠κ')(ho:T.own=1):T'.owns=false:=by
 cases hT:T'.owns with
 | false=> rfl
 | true=>
   have a1:=sm_two (f:=Th.own) rfl h1 h2 hne
   have a2:=hv.M.i1
   have a3:=owns_own hT
   omega
theorem one_mark(i:Nat)(mm:Mark):MemOp.ofEvents i fn pos #[Go.ConcR.mk mm]=#[{ g:=i,fn,pos,act:=.mark mm }]:=by
 rw[ofEvents_eq]
 simp[Go.ConcR.ofEvent_mk]
theorem mark_deaf {i j:Nat}{mm:Mark}(h1:mm≠ .disable)(h2:mm≠ .enable):Deaf (t++MemOp.ofEvents i fn pos #[Go.ConcR.mk mm]) j=Deaf t j:=by
 refine Deaf_still t j _ fun op hop=> ?_
 rw[one_mark] at hop
 simp at hop
 subst hop
 simp[h1,h2]
theorem WT.acquire(h:WT X B base N os0 w t ths m s H D)(hv:Inv X.n ths m s)(ne:X.Mu≠X.Wg∧X.Mu≠X.C∧X.Wg≠X.C){κ:Nat}(hκ:ths[κ]? =some .la)(hN:base+κ<N):
   ∃o,w.heap[X.C]? =some o∧X.GI D o∧Sat ((H (base+κ)).put X.C (true,o)) w∧WT X B base N os0 w (t++MemOp.ofEvents (base+κ) fn pos #[Go.ConcR.mk (.acquire (muA X.Mu))]) (ths.set κ .up) m s (upd H (base+κ) ((H (base+κ)).put X.C (true,o))) D:=by
 have hno:∀(κ':Nat) T,ths[κ']? =some T→T.owns=false:=fun κ' T hκ'=> by
   by_cases e:κ=κ'
   · subst e;rw[hκ] at hκ';cases hκ';rfl
   · exact hv.one hκ hκ' e rfl
 obtain⟨⟨o,h1,h2⟩,h3,h4⟩:=h.free hno
 have hlt:=(List.getElem?_eq_some_iff.1 hκ).1
 have hact:Act base N (base+κ):=.inr ⟨by omega,hN⟩
 have hsat:Sat ((H (base+κ)).put X.C (true,o)) w:=(h.vi.sat (base+κ)).put h1 fun _ _ _=> rfl
 have hop:=mark_op (X:=X) (H:=H (base+κ)) (g:=base+κ) (fn:=fn) (pos:=pos) (m:=.acquire (muA X.Mu)) (t:=t) (fun x hx=> by cases hx) (fun a e=> by cases e)
 have hd0:Deaf t (base+κ)=0:=h.dfw κ _ hκ (by simp)
 have hdd:∀j,Deaf (t++MemOp.ofEvents (base+κ) fn pos #[Go.ConcR.mk (.acquire (muA X.Mu))]) j=Deaf t j:=fun j=> mark_deaf (by simp) (by simp)
 have hti:=h.tiOwn ne hact hN hop
 have hka:=h4.acquire (y:= { g:=base+κ,fn,pos,act:=.mark (.acquire (muA X.Mu)) }) hact ⟨rfl,rfl⟩ hd0 (h.ti.rel _)
 rw[←one_mark] at hka
 have hve:∀j b,j≠base+κ→upd H (base+κ) ((H (base+κ)).put X.C (true,o)) j b=H j b:=fun j b e=> by rw[upd_ne _ _ e]
 have hvs:∀b x,upd H (base+κ) ((H (base+κ)).put X.C (true,o)) (base+κ) b=some x→(b=X.C∧x=(true,o))∨(b≠X.C∧H (base+κ) b=some x):=fun b x hx=> by
   rw[upd_same] at hx
   by_cases e:b=X.C
   · subst e;rw[View.put_same] at hx;cases hx;exact .inl ⟨rfl,rfl⟩
   · rw[View.put_other _ _ e] at hx;exact .inr ⟨e,hx⟩
 refine⟨o,h1,h2,hsat,h.sh,h.cb,⟨fun j=> ?_,fun i j hij b o' hi=> ?_,fun j=> ?_,h.vi.bs,fun j b x o' hbb hj=> ?_,h.vi.bn⟩,fun g hg b=> ?_,?_,fun ho=> ?_,fun κ' T hκ' hT j hj=> ?_,fun κ' T hκ' hT=> ?_,by rw[hdd];exact h.df0,fun κ' T hκ' hT=> ?_,h.os⟩
 · by_cases e:j=base+κ
   · subst e;rw[upd_same];exact hsat
   · rw[upd_ne _ _ e];exact h.vi.sat j
 · by_cases e:i=base+κ
   · subst e
     rw[hve j b (Ne.symm hij)]
     rcases hvs b _ hi with ⟨rfl,_⟩|⟨_,hx⟩
     · exact h3 j
     · exact h.vi.dj _ j hij b o' hx
   · rw[hve i b e] at hi
     by_cases e':j=base+κ
     · subst e'
       cases hx:upd H (base+κ) ((H (base+κ)).put X.C (true,o)) (base+κ) b with
       | none=> rfl
       | some x=>
         rcases hvs b x hx with ⟨rfl,_⟩|⟨_,hx'⟩
         · rw[h3 i] at hi;cases hi
         · rw[h.vi.dj i _ hij b o' hi] at hx';cases hx'
     · rw[hve j b e'];exact h.vi.dj i j hij b o' hi
 · by_cases e:j=base+κ
   · subst e
     rw[upd_same]
     exact⟨by rw[View.put_other _ _ ne.2.1];exact(h.vi.sh _).1,by rw[View.put_other _ _ ne.2.2];exact(h.vi.sh _).2⟩
   · rw[upd_ne _ _ e];exact h.vi.sh j
 · by_cases e:j=base+κ
   · subst e
     rcases hvs b _ hj with ⟨rfl,_⟩|⟨_,hx⟩
     · rw[h.vi.bn.2.2] at hbb;cases hbb
     · exact h.vi.bd _ b x o' hbb hx
   · rw[hve j b e] at hj;exact h.vi.bd j b x o' hbb hj
 · have e:g≠base+κ:=by rintro rfl;exact hg hact
   rw[upd_ne _ _ e];exact h.hx g hg b
 · refine⟨hti.nr,hti.bd,fun g hg i a b f o' ha hb hH hw=> ?_,hti.pl,fun i a b ha hk hb=> ?_,hti.np2,hti.sy,hti.rel,hti.gs,hti.mem⟩
   · by_cases e:g=base+κ
     · subst e
       rcases hvs b _ hH with ⟨rfl,_⟩|⟨_,hx⟩
       · exact hka i a ha hb
       · exact hti.kn _ hg i a b f o' ha hb hx hw
     · rw[hve g b e] at hH;exact hti.kn g hg i a b f o' ha hb hH hw
   · obtain⟨g1,g2,g3⟩:=hti.np i a b ha hk hb
     refine⟨fun g=> ?_,g2,g3⟩
     by_cases e:g=base+κ
     · subst e
       rw[upd_same,View.put_other _ _ g3]
       exact g1 _
     · rw[upd_ne _ _ e];exact g1 g
 · have:=ho κ .up (List.getElem?_set_self hlt)
   cases this
 · rcases set_get hκ κ' T hκ' with ⟨rfl,rfl⟩|⟨_,hκ''⟩
   · rw[hve j _ hj];exact h3 j
   · rw[hno κ' T hκ''] at hT;cases hT
 · rcases set_get hκ κ' T hκ' with ⟨rfl,rfl⟩|⟨e,hκ''⟩
   · cases hT
   · obtain⟨r,hr⟩:=h.muted κ' T hκ'' hT
     exact⟨r,hr.appOther (g:=base+κ) hop.own (by omega)⟩
 · rw[hdd]
   rcases set_get hκ κ' T hκ' with ⟨rfl,rfl⟩|⟨e,hκ''⟩
   · exact hd0
   · exact h.dfw κ' T hκ'' hT
theorem WT.release(h:WT X B base N os0 w t ths m s H D)(hv:Inv X.n ths m s)(ne:X.Mu≠X.Wg∧X.Mu≠X.C∧X.Wg≠X.C){κ:Nat}(hκ:ths[κ]? =some .ur)(hN:base+κ<N){o:Obj}{H':View}(hH:H (base+κ)=H'.put X.C (true,o))(hC:H' X.C=none){D':Nat→Bool}(hG:X.GI D' o):
   WT X B base N os0 w (t++MemOp.ofEvents (base+κ) fn pos #[Go.ConcR.mk (.releaseMerge (muA X.Mu))]) (ths.set κ .ud) m s (upd H (base+κ) H') D':=by
 have hno:∀(κ':Nat) T,κ'≠κ→ths[κ']? =some T→T.owns=false:=fun κ' T e hκ'=> hv.one hκ hκ' (Ne.symm e) rfl
 have hlt:=(List.getElem?_eq_some_iff.1 hκ).1
 have hact:Act base N (base+κ):=.inr ⟨by omega,hN⟩
 have hHC:H (base+κ) X.C=some (true,o):=by rw[hH,View.put_same]
 have hsub:∀b x,H' b=some x→H (base+κ) b=some x:=fun b x hx=> by
   rw[hH,View.put_other]
   · exact hx
   · rintro rfl;rw[hC] at hx;cases hx
 have hop:=mark_op (X:=X) (H:=H (base+κ)) (g:=base+κ) (fn:=fn) (pos:=pos) (m:=.releaseMerge (muA X.Mu)) (t:=t) (fun x hx=> by cases hx) (fun a e=> by cases e)
 have hd0:Deaf t (base+κ)=0:=h.dfw κ _ hκ (by simp)
 have hdd:∀j,Deaf (t++MemOp.ofEvents (base+κ) fn pos #[Go.ConcR.mk (.releaseMerge (muA X.Mu))]) j=Deaf t j:=fun j=> mark_deaf (by simp) (by simp)
 have hti:=h.tiOwn ne hact hN hop
 have htk:=Tok.release (base:=base) (N:=N) (Mu:=X.Mu) (C:=X.C) (y:= { g:=base+κ,fn,pos,act:=.mark (.releaseMerge (muA X.Mu)) }) (fun i a ha hb=> h.ti.kn _ hact i a X.C true o ha hb hHC (.inl rfl)) ⟨rfl,rfl⟩ hd0
 rw[←one_mark] at htk
 have hown:=h.own κ _ hκ rfl
 refine⟨h.sh,h.cb,⟨fun j=> ?_,fun i j hij b o' hi=> ?_,fun j=> ?_,h.vi.bs,fun j b x o' hbb hj=> ?_,h.vi.bn⟩,fun g hg b=> ?_,hti.less (fun b f o' hb=> ⟨f,o',hsub b _ hb,id⟩),fun _=> ⟨⟨o,h.vi.sat (base+κ) _ _ _ hHC,hG⟩,fun j=> ?_,htk⟩,fun κ' T hκ' hT j hj=> ?_,fun κ' T hκ' hT=> ?_,by rw[hdd];exact h.df0,fun κ' T hκ' hT=> ?_,h.os⟩
 · by_cases e:j=base+κ
   · subst e;rw[upd_same];exact fun b f o' hb=> h.vi.sat _ b f o' (hsub b _ hb)
   · rw[upd_ne _ _ e];exact h.vi.sat j
 · by_cases e:i=base+κ
   · subst e
     rw[upd_same] at hi
     rw[upd_ne _ _ (Ne.symm hij)]
     exact h.vi.dj _ j hij b o' (hsub b _ hi)
   · rw[upd_ne _ _ e] at hi
     by_cases e':j=base+κ
     · subst e'
       rw[upd_same]
       cases hx:H' b with
       | none=> rfl
       | some x=> have:=hsub b x hx;rw[h.vi.dj i _ hij b o' hi] at this;cases this
     · rw[upd_ne _ _ e'];exact h.vi.dj i j hij b o' hi
 · by_cases e:j=base+κ
   · subst e
     rw[upd_same]
     constructor
     · cases hx:H' X.Mu with
       | none=> rfl
       | some x=> have:=hsub _ x hx;rw[(h.vi.sh _).1] at this;cases this
     · cases hx:H' X.Wg with
       | none=> rfl
       | some x=> have:=hsub _ x hx;rw[(h.vi.sh _).2] at this;cases this
   · rw[upd_ne _ _ e];exact h.vi.sh j
 · by_cases e:j=base+κ
   · subst e;rw[upd_same] at hj;exact h.vi.bd _ b x o' hbb (hsub b _ hj)
   · rw[upd_ne _ _ e] at hj;exact h.vi.bd j b x o' hbb hj
 · have e:g≠base+κ:=by rintro rfl;exact hg hact
   rw[upd_ne _ _ e];exact h.hx g hg b
 · by_cases e:j=base+κ
   · subst e;rw[upd_same];exact hC
   · rw[upd_ne _ _ e];exact hown j e
 · rcases set_get hκ κ' T hκ' with ⟨rfl,rfl⟩|⟨e,hκ''⟩
   · cases hT
   · rw[hno κ' T e hκ''] at hT;cases hT
 · rcases set_get hκ κ' T hκ' with ⟨rfl,rfl⟩|⟨e,hκ''⟩
   · cases hT
   · obtain⟨r,hr⟩:=h.muted κ' T hκ'' hT
     exact⟨r,hr.appOther (g:=base+κ) hop.own (by omega)⟩
 · rw[hdd]
   rcases set_get hκ κ' T hκ' with ⟨rfl,rfl⟩|⟨e,hκ''⟩
   · exact hd0
   · exact h.dfw κ' T hκ'' hT
theorem WT.mute(h:WT X B base N os0 w t ths m s H D)(ne:X.Mu≠X.Wg∧X.Mu≠X.C∧X.Wg≠X.C){κ:Nat}(hκ:ths[κ]? =some .wr)(hN:base+κ<N):
   WT X B base N os0 w (t++MemOp.ofEvents (base+κ) fn pos #[Go.ConcR.mk (.releaseMerge (stA X.Wg))]) (ths.set κ .wk) m s H D:=by
 have hlt:=(List.getElem?_eq_some_iff.1 hκ).1
 have hact:Act base N (base+κ):=.inr ⟨by omega,hN⟩
 have hop:=mark_op (X:=X) (H:=H (base+κ)) (g:=base+κ) (fn:=fn) (pos:=pos) (m:=.releaseMerge (stA X.Wg)) (t:=t) (fun x hx=> by cases hx) (fun a e=> by cases e)
 have hd0:Deaf t (base+κ)=0:=h.dfw κ _ hκ (by simp)
 have hdd:∀j,Deaf (t++MemOp.ofEvents (base+κ) fn pos #[Go.ConcR.mk (.releaseMerge (stA X.Wg))]) j=Deaf t j:=fun j=> mark_deaf (by simp) (by simp)
 refine⟨h.sh,h.cb,h.vi,h.hx,h.tiOwn ne hact hN hop,fun ho=> ?_,fun κ' T hκ' hT=> ?_,fun κ' T hκ' hT=> ?_,by rw[hdd];exact h.df0,fun κ' T hκ' hT=> ?_,h.os⟩
 · obtain⟨h1,h3,h4⟩:=h.free fun κ' T hκ'=> by
     by_cases e:κ'=κ
     · subst e;rw[hκ] at hκ';cases hκ';rfl
     · exact ho κ' T (by rw[List.getElem?_set_ne (Ne.symm e)];exact hκ')
   refine⟨h1,h3,h4.grow fun op hopm x hx=> ?_⟩
   rw[one_mark] at hopm
   simp at hopm
   subst hopm
   cases hx
 · rcases set_get hκ κ' T hκ' with ⟨rfl,rfl⟩|⟨e,hκ''⟩
   · cases hT
   · exact h.own κ' T hκ'' hT
 · rcases set_get hκ κ' T hκ' with ⟨rfl,rfl⟩|⟨e,hκ''⟩
   · exact⟨_,RelBy.new hd0 fn pos⟩
   · obtain⟨r,hr⟩:=h.muted κ' T hκ'' hT
     exact⟨r,hr.appOther (g:=base+κ) hop.own (by omega)⟩
 · rw[hdd]
   rcases set_get hκ κ' T hκ' with ⟨rfl,rfl⟩|⟨e,hκ''⟩
   · exact hd0
   · exact h.dfw κ' T hκ'' hT
theorem ro_some {R:View}{b:Nat}{f:Bool}{o:Obj}(h:ro R b=some (f,o)):f=false∧∃f',R b=some (f',o):=by
 unfold ro at h
 obtain⟨x,hx,he⟩:=Option.map_eq_some_iff.1 h
 cases he
 exact⟨rfl,x.1,hx⟩
theorem ro_none {R:View}{b:Nat}(h:R b=none):ro R b=none:=by simp[ro,h]
theorem WT.fork(h:WT X B base N os0 w t ths .go s H D)(hb:1≤base)(hN:N=base+ths.length)(hm:m'.deaf=0){x y:MemOp}(hx:x.g=0∧x.act=.go N)(hy:y.g=N∧y.act=.start):
   WT X B base (N+1) os0 w (t ++ #[x,y]) (ths++[.ld]) m' s (upd (upd H 0 (ro (H 0))) N (ro (H 0))) D:=by
 have hN0:N≠0:=by omega
 have hHN:∀b,H N b=none:=h.hx N fun hh=> hh.elim hN0 fun hh=> by omega
 have hd0:Deaf t 0=0:=h.df0
 have hops:∀op∈#[x,y],op.act≠ .mark .disable∧op.act≠ .mark .enable:=by
   intro op hop
   simp only[List.mem_toArray,List.mem_cons,List.not_mem_nil,or_false] at hop
   rcases hop with rfl|rfl
   · rw[hx.2];simp
   · rw[hy.2];simp
 have hdd:∀j,Deaf (t ++ #[x,y]) j=Deaf t j:=fun j=> Deaf_still t j _ hops
 have hV:∀j b,upd (upd H 0 (ro (H 0))) N (ro (H 0)) j b=if j=N∨j=0 then ro (H 0) b else H j b:=fun j b=> by
   by_cases e:j=N
   · subst e;rw[upd_same,if_pos (.inl rfl)]
   · rw[upd_ne _ _ e]
     by_cases e0:j=0
     · subst e0;rw[upd_same,if_pos (.inr rfl)]
     · rw[upd_ne _ _ e0,if_neg (by simp[e,e0])]
 have get:∀(κ:Nat) T,(ths++[Th.ld])[κ]? =some T→ths[κ]? =some T∨(κ=ths.length∧T=.ld):=fun κ T hκ=> by
   rw[List.getElem?_append] at hκ
   split at hκ
   · exact .inl hκ
   · cases hz:κ-ths.length with
     | zero=> rw[hz] at hκ;cases hκ;exact .inr ⟨by omega,rfl⟩
     | succ z=> rw[hz] at hκ;cases hκ
 have get':∀(κ:Nat) T,ths[κ]? =some T→(ths++[Th.ld])[κ]? =some T:=fun κ T hκ=> by
   rw[List.getElem?_append_left (List.getElem?_eq_some_iff.1 hκ).1];exact hκ
 refine⟨h.sh,h.cb,⟨fun j b f o hbb=> ?_,fun i j hij b o hi=> ?_,fun j=> ?_,h.vi.bs,fun j b x' o hbb hj=> ?_,h.vi.bn⟩,fun g hg b=> ?_,?_,fun ho=> ?_,fun κ T hκ hT j hj=> ?_,fun κ T hκ hT=> ?_,by rw[hdd,hm];exact hd0,fun κ T hκ hT=> ?_,h.os⟩
 · rw[hV] at hbb
   split at hbb
   · obtain⟨_,f',h1⟩:=ro_some hbb
     exact h.vi.sat 0 b f' o h1
   · exact h.vi.sat j b f o hbb
 · rw[hV] at hi ⊢
   split at hi
   · have:=(ro_some hi).1
     cases this
   · split
     · exact ro_none (h.vi.dj i 0 (by omega) b o hi)
     · exact h.vi.dj i j hij b o hi
 · rw[hV,hV]
   split
   · exact⟨ro_none (h.vi.sh 0).1,ro_none (h.vi.sh 0).2⟩
   · exact h.vi.sh j
 · rw[hV] at hj
   split at hj
   · have:=(ro_some hj).1
     cases this
   · exact h.vi.bd j b x' o hbb hj
 · rw[hV,if_neg (by
     rintro(rfl|rfl)
     · exact hg (.inr ⟨by omega,by omega⟩)
     · exact hg (.inl rfl))]
   exact h.hx g (fun hh=> hg (hh.imp id fun⟨h1,h2⟩=> ⟨h1,by omega⟩)) b
 · exact h.ti.fork hx hy hd0 (by omega) (by omega) (fun b f o hbb=> ro_some hbb) hHN
 · obtain⟨h1,h3,h4⟩:=h.free fun κ T hκ=> ho κ T (get' κ T hκ)
   refine⟨h1,fun g=> ?_,h4.fork h.ti.gs hx hy hd0⟩
   rw[hV]
   split
   · exact ro_none (h3 0)
   · exact h3 g
 · rcases get κ T hκ with hκ'|⟨_,rfl⟩
   · have h1:=h.own κ T hκ' hT
     have hlt:=(List.getElem?_eq_some_iff.1 hκ').1
     rw[hV]
     split
     · exact ro_none (h1 0 (by omega))
     · exact h1 j hj
   · cases hT
 · rcases get κ T hκ with hκ'|⟨_,rfl⟩
   · obtain⟨r,hr⟩:=h.muted κ T hκ' hT
     have hlt:=(List.getElem?_eq_some_iff.1 hκ').1
     refine⟨r,hr.app fun i hi hgi hc=> ?_⟩
     obtain⟨a,ha,_⟩:=hc
     obtain⟨op,hop,hopa⟩:=touch_of ha
     rcases getElem?_append_cases hop with ⟨hl,_⟩|⟨_,hopu⟩
     · omega
     · simp only[List.mem_toArray,List.mem_cons,List.not_mem_nil,or_false] at hopu
       rcases hopu with rfl|rfl
       · rw[hx.2] at hopa;cases hopa
       · rw[hy.2] at hopa;cases hopa
   · cases hT
 · rw[hdd]
   rcases get κ T hκ with hκ'|⟨rfl,rfl⟩
   · exact h.dfw κ T hκ' hT
   · rw[←hN]
     exact Deaf_absent fun i op hi e=> by have:=h.ti.gs i op hi;omega
end
end Go.RL
end
section
namespace Go.RL
open Go.Conc Go.ConcN Go.RL.Au
open Go.ConcR (stA smA)
open Go.ConcM (muA OsLater)
theorem mv_nil {s:Sh}{t:Th}(hp:t.plain=true)(hm:t.mv s= []):∃c,t=.s1 c∧s.Q=0:=by
 cases t <;> simp only[Th.mv] at hm
 case la=> cases hp
 case ur=> cases hp
 case wr=> cases hp
 case quit=> cases hp
 case s1 c=>
   split at hm
   · exact⟨c,rfl,by assumption⟩
   · cases hm
 case l0=> split at hm <;> cases hm
 case c1=> split at hm <;> cases hm
 case c2=>
   split at hm
   · split at hm <;> cases hm
   · cases hm
 case r2=> split at hm <;> cases hm
 case uc=> split at hm <;> cases hm
 all_goals cases hm
theorem mn_nil {s:Sh}{t:Mn}(hp:t.plain=true)(hm:t.mv s= []):t=.ws∧s.q=0:=by
 cases t <;> simp only[Mn.mv] at hm
 case go=> cases hp
 case ret=> cases hp
 case ws=>
   split at hm
   · exact⟨rfl,by assumption⟩
   · cases hm
 case w2=> split at hm <;> cases hm
 all_goals cases hm
theorem TI.bare {Mu Wg C base N hs g:Nat}{H:Nat→View}{B:View}{t u:Trace}(h:TI Mu Wg C base N hs H B t)(hg:∀op∈u,op.g=g)(hN:g<N)(hu:∀op∈u,op.act.touch? =none)(hr:∀op∈u,∀a,op.act≠ .mark (.release a)):TI Mu Wg C base N hs H B (t++u):=by
 have old:∀ {i:Nat} {a:Touch},touchAt (t++u) i=some a→touchAt t i=some a∧i<t.size:=by
   intro i a ha
   rcases touch_cases ha with ⟨hi,ha'⟩|⟨hi,op,hop,_,hxx⟩
   · exact⟨ha',hi⟩
   · rw[hu op hop] at hxx;cases hxx
 have oldop:∀ {i:Nat} {op:MemOp} {a:Touch},(t++u)[i]? =some op→op.act.touch? =some a→t[i]? =some op∧i<t.size:=by
   intro i op a hop ha
   rcases getElem?_append_cases hop with ⟨hi,hop'⟩|⟨hi,hopu⟩
   · exact⟨hop',hi⟩
   · rw[hu op hopu] at ha;cases ha
 refine⟨fun said=> noRace_append (h.nr said) hg fun i a _ op hop b hb _=> (by rw[hu op hop] at hb;cases hb),fun i a b ha hb=> h.bd i a b (old ha).1 hb,fun j hj i a b f o ha hb hH hw=> (h.kn j hj i a b f o (old ha).1 hb hH hw).app u,
   fun i op a hop ha hk hlt=> (h.pl i op a (oldop hop ha).1 ha hk hlt).app u,fun i a b ha hk hb=> h.np i a b (old ha).1 hk hb,fun i op a hop ha hk=> ?_,fun j hj i a b ha hk hb hbb=> (h.sy j hj i a b (old ha).1 hk hb hbb).app u,fun a=> (h.rel a).app fun op hop=> hr op hop a,fun i op hop=> ?_,fun i a ha=> h.mem i a (old ha).1⟩
 · obtain⟨h3,hi⟩:=oldop hop ha
   obtain⟨h1,h2⟩:=h.np2 i op a h3 ha hk
   exact⟨h1,fun e e'=> by rw[heard_old hi];exact h2 e e'⟩
 · rcases getElem?_append_cases hop with ⟨hi,hop'⟩|⟨hi,hopu⟩
   · exact h.gs i op hop'
   · rw[hg op hopu];exact hN
theorem mute_ops {g:Nat}{fn:FuncId}{pos:String}{es:Array Event}(h:∀e∈es,e.mute=true):∀op∈MemOp.ofEvents g fn pos es,op.g=g∧op.act.touch? =none∧∀a,op.act≠ .mark (.release a):=by
 rw[ofEvents_eq]
 intro op hop
 obtain⟨e,he,rfl⟩:=Array.mem_map.1 hop
 have:=h e he
 obtain⟨loc,wr,sy⟩:=e
 cases loc with
 | mark m=> cases m <;> simp[Event.mute] at this <;> simp[MemAct.ofEvent,MemAct.touch?]
 | _=> simp[Event.mute] at this
section
variable {P:Program}{X:Fk}{Fin:Goroutine→Prop}{B:View}{base:Nat}{os0:Os0}{gs:Array Goroutine}{w:World}{t:Trace}{ths:List Th}{m:Mn}{s:Sh}{H:Nat→View}{ks:Nat→Nat}{rks:List Rank}{q:Nat→Nat}{D:Nat→Bool}
variable {sl:Option (Nat×Nat)}
theorem WT.leave {N:Nat}(h:WT X B base N os0 w t ths m s H D){i:Nat}{fn:FuncId}{pos:String}{es:Array Event}(hi:0<i)(hN:i<N)(hm:∀e∈es,e.mute=true)(hq:∀(κ:Nat) T,ths[κ]? =some T→base+κ=i→T=.quit):
   WT X B base N os0 w (t++MemOp.ofEvents i fn pos es) ths m s H D:=by
 have ho:=mute_ops (g:=i) (fn:=fn) (pos:=pos) hm
 have hown:∀op∈MemOp.ofEvents i fn pos es,op.g=i:=fun op hop=> (ho op hop).1
 refine⟨h.sh,h.cb,h.vi,h.hx,h.ti.bare hown hN (fun op hop=> (ho op hop).2.1) (fun op hop=> (ho op hop).2.2),fun hno=> ?_,h.own,fun κ T hκ hT=> ?_,?_,fun κ T hκ hT=> ?_,h.os⟩
 · obtain⟨h1,h3,h4⟩:=h.free hno
   exact⟨h1,h3,h4.grow fun op hop x hx=> by rw[(ho op hop).2.1] at hx;cases hx⟩
 · obtain⟨r,hr⟩:=h.muted κ T hκ hT
   refine⟨r,hr.app fun j hj hgj hc=> ?_⟩
   obtain⟨a,ha,_⟩:=hc
   obtain⟨op,hop,hopa⟩:=touch_of ha
   rcases getElem?_append_cases hop with ⟨hl,_⟩|⟨_,hopu⟩
   · omega
   · rw[(ho op hopu).2.1] at hopa;cases hopa
 · rw[Deaf_other t (g:=0) (g':=i) (by omega) _ hown];exact h.df0
 · have e:i≠base+κ:=fun e=> hT (hq κ T hκ e.symm)
   rw[Deaf_other t (g:=base+κ) (g':=i) e _ hown];exact h.dfw κ T hκ hT
theorem PI.pos(h:PI P X Fin B base os0 gs w t ths m s H ks rks q D):∀i,Act base gs.size i→0<ks i:=fun i hi=> Nat.lt_of_le_of_lt (Nat.zero_le _) (h.depth i hi)
theorem PI.at(h:PI P X Fin B base os0 gs w t ths m s H ks rks q D)(d:Nat):PI P X Fin B base os0 gs (w.at d) t ths m s H ks rks q D:=⟨h.inv,h.b1,h.ne,h.dd,h.depth,h.wt.at d,h.si⟩
def PI.meas(X:Fk)(gs:Array Goroutine)(ths:List Th)(m:Mn)(s:Sh)(rks:List Rank)(q:Nat→Nat):Meas:=(mu X.n ths m s,rks,sumTo gs.size q,runs gs)
def Goes(P:Program)(X:Fk)(Fin:Goroutine→Prop)(B:View)(base:Nat)(os0:Os0)(μ:Meas)(w:World)(t:Trace)(gs:Array Goroutine)(r:Stepped×Array MemOp):Prop:=
 (∃gs' w' sl' ops ths' m' s' H' ks' rks' q' D',r=(.next (crowd gs' w' sl'),ops)∧PI P X Fin B base os0 gs' w' (t++ops) ths' m' s' H' ks' rks' q' D'∧LtMeas (PI.meas X gs' ths' m' s' rks' q') μ)∨
 (∃gs' sl' g g' ths s H ks rks q D,gs[0]? =some g∧r=(.next (crowd gs' w sl'),MemOp.ofEvents 0 g.frame.fn g.frame.place #[Go.ConcR.mk (.acquire (stA X.Wg))])∧gs'=stepd P gs 0 g g' w∧Fin g'∧PI P X Fin B base os0 gs w t ths .aq s H ks rks q D)
theorem PI.dd_set(h:PI P X Fin B base os0 gs w t ths m s H ks rks q D){κ:Nat}{T T':Th}(hκ:ths[κ]? =some T)(hd:T'.did=T.did):∀κ',D κ'=(((ths.set κ T')[κ']?).map Th.did).getD false:=fun κ'=> by
 rw[h.dd κ']
 by_cases e:κ=κ'
 · subst e
   rw[List.getElem?_set_self (List.getElem?_eq_some_iff.1 hκ).1,hκ]
   simp[hd]
 · rw[List.getElem?_set_ne e]
theorem deaf_others {i:Nat}{u:Trace}(hu:∀op∈u,op.g=i):∀j,j≠i→Deaf (t++u) j=Deaf t j:=fun j hj=> Deaf_other t (g:=j) (g':=i) (Ne.symm hj) u hu
theorem ofEvents_g {g:Nat}{fn:FuncId}{pos:String}{es:Array Event}:∀op∈MemOp.ofEvents g fn pos es,op.g=g:=by
 rw[ofEvents_eq]
 intro op hop
 obtain⟨e,_,rfl⟩:=Array.mem_map.1 hop
 rfl
theorem lt_mu {a b:Nat}{x y:List Rank×(Nat×Nat)}(h:a<b):LtMeas (a,x) (b,y):=.left _ _ h
theorem lt_rk {a:Nat}{x y:List Rank}{u v:Nat×Nat}(h:LtL x y):LtMeas (a,x,u) (a,y,v):=.right _ (.left _ _ h)
theorem lt_q {a b c:Nat}{x:List Rank}{u v:Nat}(h:b<c):LtMeas (a,x,b,u) (a,x,c,v):=.right _ (.right _ (.left _ _ h))
theorem lt_run {a b:Nat}{x:List Rank}{u v:Nat}(h:u<v):LtMeas (a,x,b,u) (a,x,b,v):=.right _ (.right _ (.right _ h))
theorem runs_block {i:Nat}{g g':Goroutine}(hi:gs[i]? =some g)(hg:g.status=.running)(hg':g'.status=.blocked):runs (stepd P gs i g g' w)<runs gs:=by
 have e:stepd P gs i g g' w=gs.setIfInBounds i g':=by
   unfold stepd
   have:woken P g g' w=id:=by
     funext o
     simp[woken,hg']
   rw[this,Array.map_id]
 rw[e]
 obtain⟨hlt,rfl⟩:=Array.getElem?_eq_some_iff.1 hi
 unfold runs
 rw[Array.toList_setIfInBounds]
 have:=List.countP_set (p:=fun g:Goroutine=> g.status==.running) (l:=gs.toList) (i:=i) (a:=g') (by simpa using hlt)
 rw[this]
 have h1:((gs.toList[i]'(by simpa using hlt)).status==GoStatus.running)=true:=by simpa using hg
 have h2:0<gs.toList.countP fun g:Goroutine=> g.status==.running:=List.countP_pos_iff.2 ⟨gs[i],by simp,by simp[hg]⟩
 have h3:¬(g'.status==GoStatus.running)=true:=by simp[hg']
 rw[if_pos h1,if_neg h3]
 omega
theorem PI.moveW(h:PI P X Fin B base os0 gs w t ths m s H ks rks q D){κ k:Nat}{T T':Th}{s':Sh}{g g':Goroutine}{w':World}{es:Array Event}{H':View}{D':Nat→Bool}{ρ':Rank}{q':Nat}(hκ:ths[κ]? =some T)(hg:gs[base+κ]? =some g)(hk:ks (base+κ)=k+1)
   (hm:(T',s')∈T.mv s) (hst:stepG P false g w=.go g' w' es) (hwt:WT X B base gs.size os0 w' (t++MemOp.ofEvents (base+κ) g.frame.fn g.frame.place es) (ths.set κ T') m s' (upd H (base+κ) H') D')
   (hs:SitW P X κ T' k s' H' D' ρ' q' (Deaf (t++MemOp.ofEvents (base+κ) g.frame.fn g.frame.place es) (base+κ)) g') (hdd:∀κ',D' κ'=(((ths.set κ T')[κ']?).map Th.did).getD false)
   (hQ:(s'.Q≤s.Q∧s'.q≤s.q)∨(mayWake P g=true∧g'.status=.running)) (hD:∀κ' T',κ'≠κ→ths[κ']? =some T'→T'.owns=true→D'=D):
   Goes P X Fin B base os0 (PI.meas X gs ths m s rks q) w t gs (runT P (crowd gs w sl) (base+κ)):=by
 have hN:base+κ<gs.size:=(Array.getElem?_eq_some_iff.1 hg).1
 have hb:=h.b1
 have hact:Act base gs.size (base+κ):=.inr ⟨by omega,hN⟩
 have hi0:(base+κ==0)=false:=by simp;omega
 have hmu:=mu_worker h.inv hκ hm
 have hdep:=h.depth _ hact
 rw[hk] at hdep
 have hsi:=h.si.worker (w':=w') (g:=g) (g':=g') (T':=T') (H':=H') (k':=k) (q':=q') (ρ':=ρ') (s':=s') (D':=D') hb h.pos hκ (deaf_others ofEvents_g) hQ hD hs
 refine .inl ⟨stepd P gs (base+κ) g g' w',w',sl,_,ths.set κ T',m,s',_,_,_,_,D',runT_crowd_go hg (by rw[hi0];exact hst),⟨h.inv.step hκ hm,hb,h.ne,hdd,fun j hj=> ?_,?_,hsi⟩,lt_mu hmu⟩
 · rw[stepd_size] at hj
   by_cases e:j=base+κ
   · subst e;rw[upd_same];omega
   · rw[upd_ne _ _ e];exact Nat.lt_trans hmu (h.depth j hj)
 · rw[stepd_size];exact hwt
theorem PI.stopW(h:PI P X Fin B base os0 gs w t ths m s H ks rks q D){κ k:Nat}{T:Th}{Dw:Nat→Bool}{g:Goroutine}{ρ:Rank}(hκ:ths[κ]? =some T)(hg:gs[base+κ]? =some g)(hr:g.status=.running)(hk:ks (base+κ)=k+1)(h2:rks[base+κ]? =some ρ)(hρ:ρ=.stop)
   (hs:WS P X κ (k+1) T Dw (H (base+κ)) g) (hD:T.owns=true→Dw=D):
   Goes P X Fin B base os0 (PI.meas X gs ths m s rks q) w t gs (runT P (crowd gs w sl) (base+κ)):=by
 have hN:base+κ<gs.size:=(Array.getElem?_eq_some_iff.1 hg).1
 have hb:=h.b1
 obtain⟨_,la,ur,wr,qt,pl⟩:=hs
 have hsat:=h.wt.vi.sat (base+κ)
 have hselfH:upd H (base+κ) (H (base+κ))=H:=upd_eq _ _
 have hlt:=(List.getElem?_eq_some_iff.1 hκ).1
 have hDκ:D κ=T.did:=by rw[h.dd κ,hκ];rfl
 cases hp:T.plain with
 | true=>
   obtain⟨hok,hfit⟩:=h.inv.ok hκ
   rcases pl hp w s hsat h.wt.sh hok (h.inv.loc κ T hκ) hfit with ⟨hnil,hst⟩|⟨T',s',g',w',es,hm,hst,htu,hqe,hra,hrun,hq1,hq2,hq3⟩
   · -- it blocks
     obtain⟨c,rfl,hQ⟩:=mv_nil hp hnil
     have hact:Act base gs.size (base+κ):=.inr ⟨by omega,hN⟩
     have hi0:(base+κ==0)=false:=by simp;omega
     have hdep:=h.depth _ hact
     rw[hk] at hdep
     have hsets:ths.set κ (.s1 c)=ths:=by
       apply List.ext_getElem?
       intro j
       by_cases e:κ=j
       · subst e;rw[List.getElem?_set_self hlt,hκ]
       · rw[List.getElem?_set_ne e]
     have hrk:rks.set (base+κ) .stop=rks:=by
       apply List.ext_getElem?
       intro j
       by_cases e:base+κ=j
       · subst e;rw[List.getElem?_set_self (by rw[h.si.rsz];exact hN),h2,hρ]
       · rw[List.getElem?_set_ne e]
     have hsi:=h.si.worker (w':=w) (g:=g) (g':= { g with status:=.blocked }) (T':=.s1 c) (H':=H (base+κ)) (k':=k+1) (q':=q (base+κ)) (ρ':=.stop) (s':=s) (D':=D) (df':=Deaf t) hb h.pos hκ (fun _ _=> rfl) (.inl ⟨Nat.le_refl _,Nat.le_refl _⟩) (fun _ _ _ _ _=> rfl)
       (.wait c g Dw ⟨rfl,hQ,rfl⟩ rfl ⟨‹_›,la,ur,wr,qt,pl⟩)
     rw[hsets,hrk,hselfH,upd_eq,show upd ks (base+κ) (k+1)=ks by rw[←hk];exact upd_eq _ _] at hsi
     refine .inl ⟨stepd P gs (base+κ) g { g with status:=.blocked } w,w,sl,_,ths,m,s,H,ks,rks,q,D,runT_crowd_go hg (by rw[hi0];exact hst),⟨h.inv,hb,h.ne,h.dd,by rw[stepd_size];exact h.depth,?_,?_⟩,?_⟩
     · rw[stepd_size];simpa [MemOp.ofEvents] using h.wt
     · simpa [MemOp.ofEvents] using hsi
     · unfold PI.meas
       rw[stepd_size]
       exact lt_run (runs_block hg hr rfl)
   · obtain⟨k1,k2,k3⟩:=mv_keeps hp hm
     have hwt:=h.wt.stopW (fn:=g.frame.fn) (pos:=g.frame.place) h.ne hb hκ hN hp hm htu hqe
     have hdd:=h.dd_set hκ k2
     have hQ:(s'.Q≤s.Q∧s'.q≤s.q)∨(mayWake P g=true∧g'.status=.running):=by
       cases hra':T.raises with
       | true=> exact .inr ⟨hra hra',hrun⟩
       | false=> exact .inl (mv_low hra' hm)
     by_cases hquit:T'=.quit
     · obtain⟨q',hq'⟩:=hq1 hquit
       refine h.moveW hκ hg hk hm hst (H':=H (base+κ)) (D':=D) (ρ':=.stop) (q':=q') (by rw[hselfH];exact hwt) (.quit hquit ?_) hdd hQ (fun _ _ _ _ _=> rfl)
       have:Deaf (t++MemOp.ofEvents (base+κ) g.frame.fn g.frame.place es) (base+κ)=1:=by
         rw[Deaf_own,h.wt.dfw κ T hκ (by rintro rfl;cases hp),hqe.net,hquit]
         rfl
       rw[this]
       exact hq'
     · cases hmu:T'.mute with
       | true=>
         obtain⟨n,hn⟩:=hq2 hquit hmu
         exact h.moveW hκ hg hk hm hst (H':=H (base+κ)) (D':=D) (ρ':=natRank n) (q':=q (base+κ)) (by rw[hselfH];exact hwt) (.quiet n Dw ⟨hquit,hmu⟩ rfl hn) hdd hQ (fun _ _ _ _ _=> rfl)
       | false=>
         obtain⟨ρ',hρ'⟩:=(hq3 hmu).rank
         exact h.moveW hκ hg hk hm hst (H':=H (base+κ)) (D':=D) (ρ':=ρ') (q':=q (base+κ)) (by rw[hselfH];exact hwt) (.walk Dw hmu (fun e=> hD (by rw[←k1];exact e)) hρ') hdd hQ (fun _ _ _ _ _=> rfl)
 | false =>
   have hcase:T=.la∨T=.ur∨T=.wr∨T=.quit:=by cases T <;> simp[Th.plain] at hp <;> simp
   rcases hcase with rfl|rfl|rfl|rfl
   · obtain⟨o,h3,h4,h5,hwt⟩:=h.wt.acquire (fn:=g.frame.fn) (pos:=g.frame.place) h.inv h.ne hκ hN
     obtain⟨g',hst,hT'⟩:=la rfl D o hDκ h4 w hsat
     obtain⟨ρ',hρ'⟩:=hT'.rank
     exact h.moveW hκ hg hk (T':=.up) (s':=s) (by simp[Th.mv]) hst hwt (q':=q (base+κ)) (.walk D rfl (fun _=> rfl) hρ') (h.dd_set hκ rfl) (.inl ⟨Nat.le_refl _,Nat.le_refl _⟩) (fun _ _ _ _ _=> rfl)
   · obtain⟨o,H',hH,hC,hG,hall⟩:=ur rfl
     obtain⟨g',hst,hT'⟩:=hall w hsat
     obtain⟨ρ',hρ'⟩:=hT'.rank
     have hDD:=hD rfl
     subst hDD
     have hwt:=h.wt.release (fn:=g.frame.fn) (pos:=g.frame.place) h.inv h.ne hκ hN hH hC hG
     refine h.moveW hκ hg hk (T':=.ud) (s':=s) (by simp[Th.mv]) hst hwt (q':=q (base+κ)) (.walk Dw rfl (fun e=> by cases e) hρ') (fun κ'=> ?_) (.inl ⟨Nat.le_refl _,Nat.le_refl _⟩) (fun κ' T' e hκ' hT=> ?_)
     · by_cases e:κ'=κ
       · subst e
         rw[List.getElem?_set_self hlt]
         simp[also,Th.did]
       · rw[List.getElem?_set_ne (Ne.symm e),←h.dd κ']
         simp[also,e]
     · rw[h.inv.one hκ hκ' (Ne.symm e) rfl] at hT;cases hT
   · obtain⟨g',hst,n,hn⟩:=wr rfl w hsat
     have hwt:=h.wt.mute (fn:=g.frame.fn) (pos:=g.frame.place) h.ne hκ hN
     exact h.moveW hκ hg hk (T':=.wk) (s':=s) (by simp[Th.mv]) hst (H':=H (base+κ)) (D':=D) (ρ':=natRank n) (q':=q (base+κ)) (by rw[hselfH];exact hwt) (.quiet n Dw ⟨by simp,rfl⟩ rfl hn) (h.dd_set hκ rfl) (.inl ⟨Nat.le_refl _,Nat.le_refl _⟩) (fun _ _ _ _ _=> rfl)
   · exact(qt rfl).elim
theorem PI.worker(h:PI P X Fin B base os0 gs w t ths m s H ks rks q D){κ:Nat}{T:Th}{g:Goroutine}(hκ:ths[κ]? =some T)(hg:gs[base+κ]? =some g)(hr:g.status=.running):
   Goes P X Fin B base os0 (PI.meas X gs ths m s rks q) w t gs (runT P (crowd gs w sl) (base+κ)):=by
 have hN:base+κ<gs.size:=(Array.getElem?_eq_some_iff.1 hg).1
 have hlt:=(List.getElem?_eq_some_iff.1 hκ).1
 have hb:=h.b1
 have hact:Act base gs.size (base+κ):=.inr ⟨by omega,hN⟩
 have hi0:(base+κ==0)=false:=by simp;omega
 obtain⟨g₁,ρ,h1,h2,hsit⟩:=h.si.work κ T hκ
 rw[hg] at h1
 cases h1
 have hkp:=h.pos _ hact
 obtain⟨k,hk⟩:∃k,ks (base+κ)=k+1:=⟨ks (base+κ)-1,by omega⟩
 have hdep:=h.depth _ hact
 rw[hk] at hsit hdep
 have hself:upd ks (base+κ) (ks (base+κ))=ks:=upd_eq _ _
 have hselfq:upd q (base+κ) (q (base+κ))=q:=upd_eq _ _
 have hselfH:upd H (base+κ) (H (base+κ))=H:=upd_eq _ _
 -- a step that leaves the automaton where it is
 have stay:∀(g':Goroutine) (w':World) (es:Array Event) (H':View) (q':Nat) (ρ':Rank),stepG P false g w=.go g' w' es→
     WT X B base gs.size os0 w' (t++MemOp.ofEvents (base+κ) g.frame.fn g.frame.place es) ths m s (upd H (base+κ) H') D→
     SitW P X κ T (k+1) s H' D ρ' q' (Deaf (t++MemOp.ofEvents (base+κ) g.frame.fn g.frame.place es) (base+κ)) g'→
     LtMeas (PI.meas X (stepd P gs (base+κ) g g' w') ths m s (rks.set (base+κ) ρ') (upd q (base+κ) q')) (PI.meas X gs ths m s rks q)→
     Goes P X Fin B base os0 (PI.meas X gs ths m s rks q) w t gs (runT P (crowd gs w sl) (base+κ)):=by
   intro g' w' es H' q' ρ' hst hwt hs' hlt'
   have hsets:ths.set κ T=ths:=by
     apply List.ext_getElem?
     intro j
     by_cases e:κ=j
     · subst e;rw[List.getElem?_set_self hlt,hκ]
     · rw[List.getElem?_set_ne e]
   have hsi:=h.si.worker (w':=w') (g:=g) (g':=g') (T':=T) (H':=H') (k':=k+1) (q':=q') (ρ':=ρ') (s':=s) (D':=D) hb h.pos hκ (deaf_others ofEvents_g) (.inl ⟨Nat.le_refl _,Nat.le_refl _⟩) (fun _ _ _ _ _=> rfl) hs'
   rw[hsets] at hsi
   refine .inl ⟨stepd P gs (base+κ) g g' w',w',sl,MemOp.ofEvents (base+κ) g.frame.fn g.frame.place es,ths,m,s,upd H (base+κ) H',upd ks (base+κ) (k+1),rks.set (base+κ) ρ',upd q (base+κ) q',D,runT_crowd_go hg (by rw[hi0];exact hst),⟨h.inv,hb,h.ne,h.dd,fun j hj=> ?_,?_,hsi⟩,hlt'⟩
   · rw[stepd_size] at hj
     by_cases e:j=base+κ
     · subst e;rw[upd_same];exact hdep
     · rw[upd_ne _ _ e];exact h.depth j hj
   · rw[stepd_size];exact hwt
 cases hsit with
 | quit hT hq=>
   cases hqq:q (base+κ) with
   | zero=> rw[hqq] at hq;rw[hq.1] at hr;cases hr
   | succ q'=>
     rw[hqq] at hq
     rcases hq with ⟨hf,_⟩|⟨_,g',es,hmu,hst,hq'⟩
     · rw[hf] at hr;cases hr
     · have hrk:rks.set (base+κ) ρ=rks:=by
         apply List.ext_getElem?
         intro j
         by_cases e:base+κ=j
         · subst e;rw[List.getElem?_set_self (by rw[h.si.rsz];exact hN),h2]
         · rw[List.getElem?_set_ne e]
       have hwt:=h.wt.leave (i:=base+κ) (fn:=g.frame.fn) (pos:=g.frame.place) (by omega) hN hmu fun κ' T' hκ' e=> by
         obtain rfl:κ'=κ:=by omega
         rw[hκ] at hκ'
         cases hκ'
         exact hT
       refine stay g' w es (H (base+κ)) q' ρ (hst w) (by rw[hselfH];exact hwt) (.quit hT (by rw[Deaf_own];exact hq')) ?_
       rw[hrk]
       unfold PI.meas
       rw[stepd_size]
       refine lt_q ?_
       have:=sumTo_upd (f:=q) q' (fun a=> a) (i:=base+κ) (j:=gs.size) hN
       have e:sumTo gs.size (fun a=> upd q (base+κ) q' a)=sumTo gs.size (upd q (base+κ) q'):=rfl
       have e2:sumTo gs.size (fun a=> q a)=sumTo gs.size q:=rfl
       omega
 | quiet n Dw hT hρ hgo=>
   cases n with
   | succ n=>
     obtain⟨_,g',hst,hgo'⟩:=hgo
     refine stay g' w #[] (H (base+κ)) (q (base+κ)) (natRank n) (hst w) (by rw[hselfH];simpa [MemOp.ofEvents] using h.wt) (.quiet n Dw hT rfl hgo') ?_
     unfold PI.meas
     refine lt_rk (LtL.set h2 ?_)
     rw[hρ]
     exact natRank_lt n
   | zero=> exact h.stopW hκ hg hr hk h2 hρ hgo (fun e=> by have:=hT.2;cases T <;> simp[Th.owns] at e <;> cases this)
 | walk Dw hT hD hgo=>
   cases ρ with
   | stop=> exact h.stopW hκ hg hr hk h2 rfl hgo hD
   | step f=>
     obtain⟨_,hst⟩:=hgo
     obtain⟨g',w',es,H',h3,h4,h5⟩:=hst w (h.wt.vi.sat _) ⟨h.wt.cb,_,h.wt.sh⟩
     refine stay g' w' es H' (q (base+κ)) (f w) h3 (h.wt.walk h.ne hact hN h4 fun κ' T' hκ' e=> ?_) (.walk Dw hT hD h5) ?_
     · obtain rfl:κ'=κ:=by omega
       rw[hκ] at hκ'
       cases hκ'
       exact hT
     · unfold PI.meas
       exact lt_rk (LtL.set h2 (.step f w))
   | phase f=>
     obtain⟨_,hp,_⟩:=hgo
     exact hp.elim
 | wait c g₀ Dw hT hgg hw=>
   rw[hgg] at hr
   cases hr
end
end Go.RL
end
section
namespace Go.RL
open Go.Conc Go.ConcN Go.RL.Au
open Go.ConcR (stA smA)
open Go.ConcM (muA OsLater)
attribute [local irreducible] mu
section
variable {P:Program}{X:Fk}{Fin:Goroutine→Prop}{B:View}{base:Nat}{os0:Os0}{gs:Array Goroutine}{w:World}{t:Trace}{ths:List Th}{m:Mn}{s:Sh}{H:Nat→View}{ks:Nat→Nat}{rks:List Rank}{q:Nat→Nat}{D:Nat→Bool}
variable {sl:Option (Nat×Nat)}
theorem PI.leaver(h:PI P X Fin B base os0 gs w t ths m s H ks rks q D){i:Nat}{g:Goroutine}(h0:0<i)(hib:i<base)(hg:gs[i]? =some g)(hr:g.status=.running):
   Goes P X Fin B base os0 (PI.meas X gs ths m s rks q) w t gs (runT P (crowd gs w sl) i):=by
 have hN:i<gs.size:=(Array.getElem?_eq_some_iff.1 hg).1
 have hi0:(i==0)=false:=by simp;omega
 obtain⟨g₁,h1,hq⟩:=h.si.leav i h0 hib
 rw[hg] at h1
 cases h1
 cases hqq:q i with
 | zero=> rw[hqq] at hq;rw[hq.1] at hr;cases hr
 | succ q'=>
   rw[hqq] at hq
   rcases hq with ⟨hf,_⟩|⟨_,g',es,hmu,hst,hq'⟩
   · rw[hf] at hr;cases hr
   · have hwt:=h.wt.leave (i:=i) (fn:=g.frame.fn) (pos:=g.frame.place) h0 hN hmu fun κ' T' hκ' e=> by omega
     have hsi:=h.si.leaver (w':=w) (g:=g) (g':=g') (q':=q') (df':=Deaf (t++MemOp.ofEvents i g.frame.fn g.frame.place es)) h.pos h0 hib (deaf_others ofEvents_g) (by rw[Deaf_own];exact hq')
     refine .inl ⟨stepd P gs i g g' w,w,sl,_,ths,m,s,H,ks,rks,upd q i q',D,runT_crowd_go hg (by rw[hi0];exact hst w),⟨h.inv,h.b1,h.ne,h.dd,by rw[stepd_size];exact h.depth,by rw[stepd_size];exact hwt,hsi⟩,?_⟩
     unfold PI.meas
     rw[stepd_size]
     refine lt_q ?_
     have:=sumTo_upd (f:=q) q' (fun a=> a) (i:=i) (j:=gs.size) hN
     have e:sumTo gs.size (fun a=> upd q i q' a)=sumTo gs.size (upd q i q'):=rfl
     have e2:sumTo gs.size (fun a=> q a)=sumTo gs.size q:=rfl
     omega
theorem PI.moveM(h:PI P X Fin B base os0 gs w t ths m s H ks rks q D){k:Nat}{m':Mn}{s':Sh}{g g':Goroutine}{w':World}{es:Array Event}(hg:gs[0]? =some g)(hk:ks 0=k+1)
   (hm:(m',s')∈m.mv s) (hst:stepG P true g w=.go g' w' es) (hwt:WT X B base gs.size os0 w' (t++MemOp.ofEvents 0 g.frame.fn g.frame.place es) ths m' s' H D)
   (hs:T (Mw P true X.ok) (MS P X Fin k m' ths.length) (H 0) g'):
   Goes P X Fin B base os0 (PI.meas X gs ths m s rks q) w t gs (runT P (crowd gs w sl) 0):=by
 have hb:=h.b1
 have hmu:=mu_main h.inv hm
 have hdep:=h.depth 0 (.inl rfl)
 rw[hk] at hdep
 obtain⟨ρ',hρ'⟩:=hs.rank
 have hsi:=h.si.starter (w':=w') (g:=g) (g':=g') (m':=m') (H':=H 0) (k':=k) (ρ':=ρ') (s':=s') (df':=Deaf (t++MemOp.ofEvents 0 g.frame.fn g.frame.place es)) hb h.pos (deaf_others ofEvents_g) (mn_low hm) (.walk hρ')
 rw[upd_eq] at hsi
 refine .inl ⟨stepd P gs 0 g g' w',w',sl,_,ths,m',s',H,_,_,q,D,runT_crowd_go hg hst,⟨h.inv.main hm,hb,h.ne,h.dd,fun j hj=> ?_,?_,hsi⟩,lt_mu hmu⟩
 · rw[stepd_size] at hj
   by_cases e:j=0
   · subst e;rw[upd_same];omega
   · rw[upd_ne _ _ e];exact Nat.lt_trans hmu (h.depth j hj)
 · rw[stepd_size];exact hwt
theorem get_push {gs:Array Goroutine}{g' ch x:Goroutine}{j:Nat}(hj:gs[j]? =some x)(h0:j≠0):((gs.setIfInBounds 0 g').push ch)[j]? =some x:=by
 have hlt:=(Array.getElem?_eq_some_iff.1 hj).1
 rw[Array.getElem?_push]
 simp only[Array.size_setIfInBounds]
 rw[if_neg (by omega),Array.getElem?_setIfInBounds_ne (Ne.symm h0),hj]
theorem PI.moveF(h:PI P X Fin B base os0 gs w t ths .go s H ks rks q D){k:Nat}{m':Mn}{g g' ch:Goroutine}(hg:gs[0]? =some g)(hk:ks 0=k+1)(hinv:Inv X.n (ths++[.ld]) m' s)(hmu:mu X.n (ths++[.ld]) m' s<mu X.n ths .go s)(hd:m'.deaf=0)
   (hst:stepG P true g w=.spawn g' ch w #[]) (hT:T (Mw P true X.ok) (MS P X Fin k m' (ths.length+1)) (ro (H 0)) g') (hC:T (Mw P false X.ok) (WS P X ths.length k .ld (fun _=> false)) (ro (H 0)) ch):
   Goes P X Fin B base os0 (PI.meas X gs ths .go s rks q) w t gs (runT P (crowd gs w sl) 0):=by
 have hN:0<gs.size:=(Array.getElem?_eq_some_iff.1 hg).1
 have hb:=h.b1
 have hdep:=h.depth 0 (.inl rfl)
 have hsz:=h.si.size
 obtain⟨x,hx⟩:∃x:MemOp,x= { g:=0,fn:=g.frame.fn,pos:=g.frame.place,act:=.go gs.size }:=⟨_,rfl⟩
 obtain⟨y,hy⟩:∃y:MemOp,y= { g:=gs.size,fn:=ch.frame.fn,pos:=g.frame.place,act:=.start }:=⟨_,rfl⟩
 have hx':x.g=0∧x.act=.go gs.size:=by rw[hx];exact⟨rfl,rfl⟩
 have hy':y.g=gs.size∧y.act=.start:=by rw[hy];exact⟨rfl,rfl⟩
 have hwt:=h.wt.fork (m':=m') hb hsz hd hx' hy'
 have hrun':=runT_crowd_spawn (P:=P) (sl:=sl) hg hst
 have hops:((MemOp.ofEvents 0 g.frame.fn g.frame.place #[]).push { g:=0,fn:=g.frame.fn,pos:=g.frame.place,act:=.go gs.size } |>.push { g:=gs.size,fn:=ch.frame.fn,pos:=g.frame.place,act:=.start })=#[x,y]:=by
   rw[hx,hy]
   simp[MemOp.ofEvents]
 rw[hops] at hrun'
 rw[hk] at hdep
 obtain⟨ρm,hρm⟩:=hT.rank
 obtain⟨ρc,hρc⟩:=hC.rank
 have hsz':((gs.setIfInBounds 0 g').push ch).size=gs.size+1:=by simp
 have hdf:∀j,Deaf (t ++ #[x,y]) j=Deaf t j:=fun j=> Deaf_still t j _ fun op hop=> by
   simp only[List.mem_toArray,List.mem_cons,List.not_mem_nil,or_false] at hop
   rcases hop with rfl|rfl
   · rw[hx'.2];simp
   · rw[hy'.2];simp
 have hsits:Sits P X Fin base ((gs.setIfInBounds 0 g').push ch) (Deaf (t ++ #[x,y])) (ths++[.ld]) m' s (upd (upd H 0 (ro (H 0))) gs.size (ro (H 0))) (upd (upd ks 0 k) gs.size k) ((rks.set 0 ρm)++[ρc]) q D:=by
   refine⟨by rw[hsz',List.length_append];simp;omega,by rw[hsz',List.length_append,List.length_set,h.si.rsz];simp,⟨g',ρm,?_,?_,?_⟩,fun κ T hκ=> ?_,fun i h0 hib=> ?_⟩
   · rw[Array.getElem?_push]
     simp only[Array.size_setIfInBounds]
     rw[if_neg (by omega)]
     simp[hN]
   · rw[List.getElem?_append_left (by rw[List.length_set,h.si.rsz];exact hN),List.getElem?_set_self (by rw[h.si.rsz];exact hN)]
   · rw[upd_ne _ _ (by omega),upd_same,upd_ne _ _ (by omega),upd_same]
     rw[List.length_append]
     exact .walk hρm
   · rw[List.getElem?_append] at hκ
     split at hκ
     · obtain⟨g0,ρ0,h3,h4,h5⟩:=h.si.work κ T hκ
       have hne:base+κ≠gs.size:=by omega
       refine⟨g0,ρ0,get_push h3 (by omega),?_,?_⟩
       · have hl:=(List.getElem?_eq_some_iff.1 h4).1
         rw[List.getElem?_append_left (by rw[List.length_set];exact hl),List.getElem?_set_ne (by omega)]
         exact h4
       · rw[upd_ne _ _ hne,upd_ne _ _ (by omega),upd_ne _ _ hne,upd_ne _ _ (by omega),hdf]
         exact h5
     · cases hz:κ-ths.length with
       | succ z=> rw[hz] at hκ;cases hκ
       | zero=>
         rw[hz] at hκ
         cases hκ
         have he:base+κ=gs.size:=by omega
         refine⟨ch,ρc,?_,?_,?_⟩
         · rw[he,Array.getElem?_push]
           simp
         · rw[he,List.getElem?_append_right (by rw[List.length_set,h.si.rsz];omega),List.length_set,h.si.rsz]
           simp
         · rw[he,upd_same,upd_same]
           have:κ=ths.length:=by omega
           subst this
           exact .walk (fun _=> false) rfl (fun e=> by cases e) hρc
   · obtain⟨g0,h3,h4⟩:=h.si.leav i h0 hib
     exact⟨g0,get_push h3 (by omega),by rw[hdf];exact h4⟩
 refine .inl ⟨(gs.setIfInBounds 0 g').push ch,w,sl,#[x,y],ths++[.ld],m',s,upd (upd H 0 (ro (H 0))) gs.size (ro (H 0)),upd (upd ks 0 k) gs.size k,(rks.set 0 ρm)++[ρc],q,D,hrun',⟨hinv,hb,h.ne,fun κ=> ?_,fun j hj=> ?_,by rw[hsz'];exact hwt,hsits⟩,lt_mu hmu⟩
 · rw[h.dd κ,List.getElem?_append]
   split
   · rfl
   · rename_i hge
     rw[List.getElem?_eq_none (by omega)]
     cases hz:κ-ths.length with
     | zero=> rfl
     | succ z=> rfl
 · rw[hsz'] at hj
   by_cases e:j=gs.size
   · subst e;rw[upd_same];exact Nat.lt_of_lt_of_le hmu (Nat.le_of_lt_succ hdep)
   · rw[upd_ne _ _ e]
     by_cases e0:j=0
     · subst e0;rw[upd_same];exact Nat.lt_of_lt_of_le hmu (Nat.le_of_lt_succ hdep)
     · rw[upd_ne _ _ e0]
       exact Nat.lt_trans hmu (h.depth j (hj.imp id fun⟨h1,h2⟩=> ⟨h1,by omega⟩))
theorem PI.stopM(h:PI P X Fin B base os0 gs w t ths m s H ks rks q D){k:Nat}{g:Goroutine}{ρ:Rank}(hg:gs[0]? =some g)(hr:g.status=.running)(hk:ks 0=k+1)(h2:rks[0]? =some ρ)(hρ:ρ=.stop)
   (hs:MS P X Fin (k+1) m ths.length (H 0) g):
   Goes P X Fin B base os0 (PI.meas X gs ths m s rks q) w t gs (runT P (crowd gs w sl) 0):=by
 have hN:0<gs.size:=(Array.getElem?_eq_some_iff.1 hg).1
 have hb:=h.b1
 obtain⟨hrun,go,kr,wm,aq,rt,pl⟩:=hs
 have hsat:=h.wt.vi.sat 0
 have hdep:=h.depth 0 (.inl rfl)
 cases hp:m.plain with
 | true=>
   obtain⟨hok,hfit⟩:=h.inv.mok
   rcases pl hp w s hsat h.wt.sh hok hfit with ⟨hnil,hst⟩|⟨m',s',g',w',es,hm,hst,htu,hqe,hq3⟩
   · obtain⟨rfl,hQ⟩:=mn_nil hp hnil
     have hrk:rks.set 0 .stop=rks:=by
       apply List.ext_getElem?
       intro j
       by_cases e:0=j
       · subst e;rw[List.getElem?_set_self (by rw[h.si.rsz];exact hN),h2,hρ]
       · rw[List.getElem?_set_ne e]
     have hsi:=h.si.starter (w':=w) (g:=g) (g':= { g with status:=.blocked }) (m':=.ws) (H':=H 0) (k':=k+1) (ρ':=.stop) (s':=s) (df':=Deaf t) hb h.pos (fun _ _=> rfl) ⟨Nat.le_refl _,Nat.le_refl _⟩ (.wait g ⟨rfl,hQ,rfl⟩ rfl ⟨hrun,go,kr,wm,aq,rt,pl⟩)
     rw[hrk,upd_eq,show upd ks 0 (k+1)=ks by rw[←hk];exact upd_eq _ _] at hsi
     refine .inl ⟨stepd P gs 0 g { g with status:=.blocked } w,w,sl,_,ths,.ws,s,H,ks,rks,q,D,runT_crowd_go hg hst,⟨h.inv,hb,h.ne,h.dd,by rw[stepd_size];exact h.depth,?_,?_⟩,?_⟩
     · rw[stepd_size];simpa [MemOp.ofEvents] using h.wt
     · simpa [MemOp.ofEvents] using hsi
     · unfold PI.meas
       rw[stepd_size]
       exact lt_run (runs_block hg hr rfl)
   · exact h.moveM hg hk hm hst (h.wt.stopM h.ne hb hN htu hqe) hq3
 | false=>
   have hcase:m=.kr∨m=.go∨m=.wm∨m=.aq∨m=.ret:=by cases m <;> simp[Mn.plain] at hp <;> simp
   rcases hcase with rfl|rfl|rfl|rfl|rfl
   · obtain⟨g',hst,hT⟩:=kr rfl w hsat
     exact h.moveM hg hk (m':=.ke) (s':=s) (by simp[Mn.mv]) hst (h.wt.said h.ne hb hN (.inl rfl) rfl) hT
   · obtain⟨g',ch,hst,hT,hC⟩:=go rfl w hsat
     exact h.moveF hg hk (h.inv.fork) (mu_fork h.inv (by split <;> simp[Mn.wt])) (by split <;> rfl) hst hT hC
   · obtain⟨g',hst,hT⟩:=wm rfl w hsat
     exact h.moveM hg hk (m':=.ws) (s':=s) (by simp[Mn.mv]) hst (h.wt.said h.ne hb hN (.inr rfl) rfl) hT
   · obtain⟨g',hst,hF⟩:=aq rfl w hsat
     exact .inr ⟨_,sl,g,g',ths,s,H,ks,rks,q,D,hg,runT_crowd_go hg hst,rfl,hF,h⟩
   · exact(rt rfl).elim
theorem PI.starter(h:PI P X Fin B base os0 gs w t ths m s H ks rks q D){g:Goroutine}(hg:gs[0]? =some g)(hr:g.status=.running):
   Goes P X Fin B base os0 (PI.meas X gs ths m s rks q) w t gs (runT P (crowd gs w sl) 0):=by
 have hN:0<gs.size:=(Array.getElem?_eq_some_iff.1 hg).1
 have hb:=h.b1
 obtain⟨g₁,ρ,h1,h2,hsit⟩:=h.si.main
 rw[hg] at h1
 cases h1
 have hkp:=h.pos 0 (.inl rfl)
 obtain⟨k,hk⟩:∃k,ks 0=k+1:=⟨ks 0-1,by omega⟩
 have hdep:=h.depth 0 (.inl rfl)
 rw[hk] at hsit hdep
 cases hsit with
 | wait g₀ hT hgg hw=> rw[hgg] at hr;cases hr
 | walk hgo=>
   cases ρ with
   | stop=> exact h.stopM hg hr hk h2 rfl hgo
   | phase f=> obtain⟨_,hp,_⟩:=hgo;exact hp.elim
   | step f=>
     obtain⟨_,hst⟩:=hgo
     obtain⟨g',w',es,H',h3,h4,h5⟩:=hst w (h.wt.vi.sat _) ⟨h.wt.cb,_,h.wt.sh⟩
     have hwt:=h.wt.walk (i:=0) (fn:=g.frame.fn) (pos:=g.frame.place) h.ne (.inl rfl) hN h4 fun κ' T' hκ' e=> by omega
     have hsi:=h.si.starter (w':=w') (g:=g) (g':=g') (m':=m) (H':=H') (k':=k+1) (ρ':=f w) (s':=s) (df':=Deaf (t++MemOp.ofEvents 0 g.frame.fn g.frame.place es)) hb h.pos (deaf_others ofEvents_g) ⟨Nat.le_refl _,Nat.le_refl _⟩ (.walk h5)
     refine .inl ⟨stepd P gs 0 g g' w',w',sl,_,ths,m,s,upd H 0 H',upd ks 0 (k+1),rks.set 0 (f w),q,D,runT_crowd_go hg h3,⟨h.inv,hb,h.ne,h.dd,fun j hj=> ?_,by rw[stepd_size];exact hwt,hsi⟩,lt_rk (LtL.set h2 (.step f w))⟩
     rw[stepd_size] at hj
     by_cases e:j=0
     · subst e;rw[upd_same];exact hdep
     · rw[upd_ne _ _ e];exact h.depth j hj
theorem PI.someone(h:PI P X Fin B base os0 gs w t ths m s H ks rks q D):∃(i:Nat) (g:Goroutine),gs[i]? =some g∧g.status=.running:=by
 refine Classical.byContradiction fun hno=> ?_
 have hnr:∀(i:Nat) g,gs[i]? =some g→g.status≠ .running:=fun i g hi hr=> hno ⟨i,g,hi,hr⟩
 obtain⟨g,ρ,h1,h2,hsit⟩:=h.si.main
 have hkp:=h.pos 0 (.inl rfl)
 obtain⟨k,hk⟩:∃k,ks 0=k+1:=⟨ks 0-1,by omega⟩
 rw[hk] at hsit
 cases hsit with
 | walk hgo=> exact hnr 0 g h1 (hgo.run (fun _ _ _ h=> h) fun _ _ h=> h.1.1)
 | wait g₀ hT hgg hw=>
   obtain⟨rfl,hq0,_⟩:=hT
   obtain⟨κ,T,hκ,hT⟩:=h.inv.live (by simp) (by simp) (by simp[Mn.mv,hq0])
   obtain⟨g',ρ',h3,h4,hs'⟩:=h.si.work κ T hκ
   have hN:=(Array.getElem?_eq_some_iff.1 h3).1
   have hkp':=h.pos (base+κ) (.inr ⟨by omega,hN⟩)
   obtain⟨k',hk'⟩:∃k,ks (base+κ)=k+1:=⟨ks (base+κ)-1,by omega⟩
   rw[hk'] at hs'
   cases hs' with
   | quit hT' _=> subst hT';exact hT rfl
   | quiet n Dw hT' hρ hgo=> exact hnr _ g' h3 (hgo.run fun _ h=> h.1.1)
   | walk Dw hT' hD hgo=> exact hnr _ g' h3 (hgo.run (fun _ _ _ h=> h) fun _ _ h=> h.1.1)
   | wait c g₀ Dw hT' hgg hw=> obtain⟨rfl,hQ0,_⟩:=hT';exact hT (by simp[Th.mv,hQ0])
theorem PI.awake(h:PI P X Fin B base os0 gs w t ths m s H ks rks q D):∀g∈gs,awake g:=by
 intro g hg tm
 obtain⟨i,hi,rfl⟩:=Array.mem_iff_getElem.1 hg
 have hi':=Array.getElem?_eq_getElem hi
 have key:gs[i].status=.running∨gs[i].status=.finished∨gs[i].status=.blocked:=by
   by_cases e0:i=0
   · subst e0
     obtain⟨g,ρ,h1,h2,hsit⟩:=h.si.main
     have hkp:=h.pos 0 (.inl rfl)
     obtain⟨k,hk⟩:∃k,ks 0=k+1:=⟨ks 0-1,by omega⟩
     rw[hk] at hsit
     rw[h1] at hi'
     cases hi'
     exact hsit.status.imp id .inr
   · rcases Nat.lt_or_ge i base with hlt|hge
     · obtain⟨g,h1,hq⟩:=h.si.leav i (by omega) hlt
       rw[h1] at hi'
       cases hi'
       exact hq.status.imp id .inl
     · have hsz:=h.si.size
       obtain⟨T,hT⟩:∃T,ths[i-base]? =some T:=⟨_,List.getElem?_eq_getElem (by omega)⟩
       obtain⟨g,ρ,h1,h2,hsit⟩:=h.si.work _ T hT
       rw[show base+(i-base)=i by omega] at h1 hsit
       have hkp:=h.pos i (.inr ⟨hge,hi⟩)
       obtain⟨k,hk⟩:∃k,ks i=k+1:=⟨ks i-1,by omega⟩
       rw[hk] at hsit
       rw[h1] at hi'
       cases hi'
       exact hsit.status
 rcases key with e|e|e <;> rw[e] <;> simp
theorem PI.step(h:PI P X Fin B base os0 gs w t ths m s H ks rks q D):∃d,Goes P X Fin B base os0 (PI.meas X gs ths m s rks q) (w.at d) t gs (stepT P (crowd gs w sl)):=by
 obtain⟨i,g,d,sl',hg,hrun,hstep⟩:=crowd_pick (P:=P) (w:=w) (sl:=sl) h.awake h.someone
 rw[hstep]
 refine⟨d,?_⟩
 have h':=h.at d
 by_cases e0:i=0
 · subst e0
   exact h'.starter hg hrun
 · rcases Nat.lt_or_ge i base with hlt|hge
   · exact h'.leaver (by omega) hlt hg hrun
   · have hsz:=h.si.size
     have hN:=(Array.getElem?_eq_some_iff.1 hg).1
     obtain⟨T,hT⟩:∃T,ths[i-base]? =some T:=⟨_,List.getElem?_eq_getElem (by omega)⟩
     have:=h'.worker (sl:=sl') hT (g:=g) (by rw[show base+(i-base)=i by omega];exact hg) hrun
     rwa [show base+(i-base)=i by omega] at this
end
end Go.RL
end
