/-
 Texts of the proofs over baudot/dial.
-/
import Derived.Test.YtgkmnalhddmclaaGreatDoorT03
import Derived.Laws.Strings
namespace Go.RL
open Go.Conc Go.Proofs Go.Proofs.YtgkmnalhddmclaaGreatDoor
set_option maxRecDepth 10000
section
variable {M:Md Tryz.prog}{St:View->Goroutine->Prop}{n:Nat}{b:FB}{H₀:View}{cs:List Frame}{R:Rg}{L:Bl}{ds:List Deferred}{k:List Item}{dl:List (Option Tmp)}{l:List Oper}{o:Oper}{d:Nat}{v:Value}{K:Rg->Bl->Prop}{main:Bool}{sh:Z3}{J:Goroutine->Prop}
theorem oA.mv {x:Operand}(iA:o.op=.move x:=by exact rfl)(hx:GA R x=some v:=by exact rfl):oA Tryz.prog n H₀ R L o (v):=
 oA.move iA hx
theorem oA.sg {x:Operand}(iA:o.op=.assign x:=by exact rfl)(hx:GA R x=some v:=by exact rfl):oA Tryz.prog n H₀ R L o (v):=
 oA.assign iA hx
theorem oA.pk {c x y:Operand}{t:Bool}(iA:o.op=.pick c x y:=by exact rfl)(hc:GA R c=some (.bool t):=by exact rfl)(hx:(match t with|true=> GA R x|false=> GA R y)=some v:=by exact rfl):oA Tryz.prog n H₀ R L o (v):=
 oA.pick iA hc hx
theorem oA.et {x:Operand}{i:Nat}{vs:Array Value}(iA:o.op=.extract x i:=by exact rfl)(hx:GA R x=some (.tuple vs):=by exact rfl)(hv:vs[i]? =some v:=by exact rfl):oA Tryz.prog n H₀ R L o (v):=
 oA.extract iA hx hv
theorem oA.nk {x:Operand}{a:Addr}(iA:o.op=.nilCheck x:=by exact rfl)(hx:GA R x=some (.pointer (some a)):=by exact rfl):oA Tryz.prog n H₀ R L o (.pointer (some a)):=
 oA.nilCheck iA hx
theorem oA.fa {s:TypeId}{x:Operand}{fi o':Nat}{r:wA}{blk off:Nat}(iA:o.op=.fieldAddr s x fi:=by exact rfl)(hx:GA R x=some (.pointer (some ⟨blk,off,none⟩)):=by exact rfl)(ht:en.ty s=some r:=by exact rfl)(ho:r.BX[fi]? =some o':=by exact rfl):oA Tryz.prog n H₀ R L o (.pointer (some ⟨blk,off+o',none⟩)):=
 oA.fieldAddr (E:=en) iA hx ht ho
theorem oA.mf {fn:Fn}{fs cp:Array Operand}{vf vc:List Value}(iA:o.op=.makeFunc fn fs cp:=by exact rfl)(h1:aE R fs.toList=some vf:=by exact rfl)(h2:aE R cp.toList=some vc:=by exact rfl):oA Tryz.prog n H₀ R L o (.func fn vf.toArray vc.toArray):=
 oA.makeFunc iA h1 h2
theorem oA.bu {t:TypeId}{ps:Array (Nat×Operand)}{parts:List (Nat×Value)}{l:List Value}(iA:o.op=.build t ps:=by exact rfl)(jY:jO R ps.toList=some parts:=by exact rfl)(hv:SP en t parts=some l:=by exact rfl):oA Tryz.prog n H₀ R L o (.agg ⟨l⟩):=
 oA.build (E:=en) iA jY hv
theorem oA.cv {t u:TypeId}{x:Operand}{ik jk:IntKind}{p z:Int}{r r':wA}(iA:o.op=.convert t u x:=by exact rfl)(hx:GA R x=some (.int ik p):=by exact rfl)(ht:en.ty t=some r:=by exact rfl)(hr:r.ds=.int ik:=by exact rfl)(T2:en.ty u=some r':=by exact rfl)(vE:r'.ds=.int jk:=by exact rfl)(hz:jk.wrap p=z:=by first|assumption|exact rfl):oA Tryz.prog n H₀ R L o (.int jk z):=
 oA.p8 (E:=en) iA hx ht hr T2 vE hz
theorem oA.fd {t ft:TypeId}{x:Operand}{fi off sz:Nat}{r rf:wA}{c:List Value}{fs:List (TypeId×Nat×Nat)}(iA:o.op=.field t x fi:=by exact rfl)(hx:GA R x=some (.agg ⟨c⟩):=by exact rfl)(ht:en.ty t=some r:=by exact rfl)(LB:r.ds=.struct fs:=by exact rfl)(hf:fs[fi]? =some (ft,off,sz):=by exact rfl)(htf:en.ty ft=some rf:=by exact rfl)(hv:SB rf.agg rf.size c off=some v:=by exact rfl):oA Tryz.prog n H₀ R L o v:=
 oA.field (E:=en) iA hx ht LB hf htf hv
theorem oA.ld(i:Nat){t:TypeId}{x:Operand}{r:wA}{blk off:Nat}{f:Bool}{c:List Value}{e:TypeId}{fz:Nat×Nat}(iA:o.op=.load t x:=by exact rfl)(hx:GA R x=some (.pointer (some ⟨blk,off,none⟩)):=by exact rfl)(hi:L[i]? =some (blk,f,.cells ⟨c⟩ e fz):=by exact rfl)(ht:en.ty t=some r:=by exact rfl)(hv:SB r.agg r.size c off=some v:=by first|exact rfl|assumption):oA Tryz.prog n H₀ R L o (v):=
 oA.load (E:=en) i iA hx hi ht hv
theorem oA.l0 {t:TypeId}{x:Operand}{r:wA}{blk off:Nat}{f:Bool}{c:List Value}{e:TypeId}{fz:Nat×Nat}(iA:o.op=.load t x:=by exact rfl)(hx:GA R x=some (.pointer (some ⟨blk,off,none⟩)):=by exact rfl)(hi:H₀ blk=some (f,.cells ⟨c⟩ e fz):=by assumption)(ht:en.ty t=some r:=by first|exact rfl|assumption)(hv:SB r.agg r.size c off=some v:=by first|exact rfl|assumption):oA Tryz.prog n H₀ R L o (v):=
 oA.B6 (E:=en) iA hx hi ht hv
theorem oA.ia {t:TypeId}{x y:Operand}{r re:wA}{et:TypeId}{blk off sz len cap:Nat}{ik:IntKind}{j:Int}(iA:o.op=.indexAddr t x y:=by exact rfl)(hx:GA R x=some (.slice (some ⟨blk,off,none⟩) len cap):=by exact rfl)(hy:GA R y=some (.int ik j):=by exact rfl)(ht:en.ty t=some r:=by exact rfl)(he:r.elem=some (none,et):=by exact rfl)(ZC:en.ty et=some re:=by exact rfl)(QD:re.size=sz:=by exact rfl)(h0:0<=j:=by omega)(h1:j<len:=by omega):oA Tryz.prog n H₀ R L o (.pointer (some ⟨blk,off+j.toNat*sz,none⟩)):=
 oA.indexAddr (E:=en) iA hx hy ht he ZC QD h0 h1
theorem oA.ib {t:TypeId}{x y:Operand}{r re:wA}{et:TypeId}{blk off sz len:Nat}{ik:IntKind}{j:Int}(iA:o.op=.indexAddr t x y:=by exact rfl)(hx:GA R x=some (.pointer (some ⟨blk,off,none⟩)):=by exact rfl)(hy:GA R y=some (.int ik j):=by exact rfl)(ht:en.ty t=some r:=by exact rfl)(he:r.elem=some (some len,et):=by exact rfl)(ZC:en.ty et=some re:=by exact rfl)(QD:re.size=sz:=by exact rfl)(h0:0<=j:=by omega)(h1:j<len:=by omega):oA Tryz.prog n H₀ R L o (.pointer (some ⟨blk,off+j.toNat*sz,none⟩)):=
 oA.BU (E:=en) iA hx hy ht he ZC QD h0 h1
theorem oA.ix {t:TypeId}{x y:Operand}{r re:wA}{et:TypeId}{len:Nat}{ik:IntKind}{j:Int}{c:List Value}(iA:o.op=.index t x y:=by exact rfl)(hx:GA R x=some (.agg ⟨c⟩):=by exact rfl)(hy:GA R y=some (.int ik j):=by exact rfl)(ht:en.ty t=some r:=by exact rfl)(he:r.elem=some (some len,et):=by exact rfl)(ZC:en.ty et=some re:=by exact rfl)(h0:0<=j:=by omega)(h1:j<len:=by omega)(hv:SB re.agg re.size c (j.toNat*re.size)=some v:=by exact rfl):oA Tryz.prog n H₀ R L o (v):=
 oA.index (E:=en) iA hx hy ht he ZC h0 h1 hv
theorem oA.it {op:BinOp}{t u:TypeId}{x y:Operand}{ik:IntKind}{p q:Int}(iA:o.op=.binOp op t x y u:=by exact rfl)(hx:GA R x=some (.int ik p):=by exact rfl)(hy:GA R y=some (.int ik q):=by exact rfl)(zz:gA op ik p q=some v):oA Tryz.prog n H₀ R L o (v):=
 oA.int iA hx hy zz
theorem oA.sf {op:BinOp}{t u:TypeId}{x y:Operand}{ik jk:IntKind}{p q:Int}(iA:o.op=.binOp op t x y u:=by exact rfl)(hx:GA R x=some (.int ik p):=by exact rfl)(hy:GA R y=some (.int jk q):=by exact rfl)(hq:0<=q:=by omega)(hv:NC op ik p q=some v:=by first|assumption|exact rfl):oA Tryz.prog n H₀ R L o (v):=
 oA.shift iA hx hy hq hv
theorem oA.nt {t:TypeId}{x:Operand}{p:Bool}(iA:o.op=.unOp .not t x:=by exact rfl)(hx:GA R x=some (.bool p):=by exact rfl):oA Tryz.prog n H₀ R L o (.bool (!p)):=
 oA.not iA hx
theorem oA.ng {t:TypeId}{x:Operand}{p z:Int}(iA:o.op=.unOp .neg t x:=by exact rfl)(hx:GA R x=some (.int .i64 p):=by exact rfl)(h1: -9223372036854775808<= -p:=by omega)(h2: -p<9223372036854775808:=by omega)(hz: -p=z:=by exact rfl):oA Tryz.prog n H₀ R L o (.int .i64 z):=
 oA.neg iA hx h1 h2 hz
theorem oA.ln {t:TypeId}{x:Operand}{a:Option Addr}{p q:Nat}{cl:Go.Call}{e:TypeId}{r:wA}(iA:o.op=.call cl:=by exact rfl)(PB:cl.callee=.builtin .len:=by exact rfl)(VH:cl.argTypes=#[t]:=by exact rfl)(sJ:cl.args=#[x]:=by exact rfl)(hx:GA R x=some (.slice a p q):=by exact rfl)(ht:en.ty t=some r:=by exact rfl)(he:r.elem=some (none,e):=by exact rfl):oA Tryz.prog n H₀ R L o (.int .i64 (p:Int)):=
 oA.len (E:=en) iA PB VH sJ hx ht he
theorem oA.eb {t u:TypeId}{x y:Operand}{r:wA}{p q:Bool}(iA:o.op=.binOp .eql t x y u:=by exact rfl)(hx:GA R x=some (.bool p):=by exact rfl)(hy:GA R y=some (.bool q):=by exact rfl)(ht:en.ty t=some r:=by exact rfl)(LB:r.ds=.bool:=by exact rfl):oA Tryz.prog n H₀ R L o (.bool (p==q)):=
 oA.eqB (E:=en) iA hx hy ht LB
theorem oA.nb {t u:TypeId}{x y:Operand}{r:wA}{p q:Bool}(iA:o.op=.binOp .neq t x y u:=by exact rfl)(hx:GA R x=some (.bool p):=by exact rfl)(hy:GA R y=some (.bool q):=by exact rfl)(ht:en.ty t=some r:=by exact rfl)(LB:r.ds=.bool:=by exact rfl):oA Tryz.prog n H₀ R L o (.bool (!(p==q))):=
 oA.neB (E:=en) iA hx hy ht LB
theorem oC.mv {x:Operand}(iA:o.op=.move x:=by exact rfl)(hx:GA R x=some v:=by exact rfl):oC Tryz.prog sh n R o v:=
 oC.move iA hx
theorem oC.sg {x:Operand}(iA:o.op=.assign x:=by exact rfl)(hx:GA R x=some v:=by exact rfl):oC Tryz.prog sh n R o v:=
 oC.assign iA hx
theorem oC.pk {c x y:Operand}{u:Bool}(iA:o.op=.pick c x y:=by exact rfl)(hc:GA R c=some (.bool u):=by exact rfl)(hx:(match u with|true=> GA R x|false=> GA R y)=some v:=by exact rfl):oC Tryz.prog sh n R o v:=
 oC.pick iA hc hx
theorem oC.nk {x:Operand}{a:Addr}(iA:o.op=.nilCheck x:=by exact rfl)(hx:GA R x=some (.pointer (some a)):=by exact rfl):oC Tryz.prog sh n R o (.pointer (some a)):=
 oC.nilCheck iA hx
theorem oC.nt {u:TypeId}{x:Operand}{p:Bool}(iA:o.op=.unOp .not u x:=by exact rfl)(hx:GA R x=some (.bool p):=by exact rfl):oC Tryz.prog sh n R o (.bool (!p)):=
 oC.not iA hx
theorem oC.it {op:BinOp}{u u':TypeId}{x y:Operand}{ik:IntKind}{p q:Int}(iA:o.op=.binOp op u x y u':=by exact rfl)(hx:GA R x=some (.int ik p):=by exact rfl)(hy:GA R y=some (.int ik q):=by exact rfl)(zz:gA op ik p q=some v):oC Tryz.prog sh n R o v:=
 oC.int iA hx hy zz
theorem oC.fa {s:TypeId}{x:Operand}{fi o':Nat}{blk off:Nat}(iA:o.op=.fieldAddr s x fi:=by exact rfl)(hx:GA R x=some (.pointer (some ⟨blk,off,none⟩)):=by exact rfl)(zz:aH Tryz.prog s fi=some o'):oC Tryz.prog sh n R o (.pointer (some ⟨blk,off+o',none⟩)):=
 oC.field iA hx zz
theorem Or.bx {e:TypeId}{x:Operand}(iA:o.op=.box e x:=by exact rfl)(hd:o.dst=some d:=by exact rfl)(hn:d<n:=by decide)(hx:GA R x=some v:=by exact rfl)(zz:∀blk,K ((d,.pointer (some ⟨blk,0,none⟩))::R) ((blk,true,.cells ⟨v.cells.toList⟩ e (0,0))::L)):Or M n H₀ R L o K:=
 Or.box iA hd hn hx zz
theorem Or.al {e:TypeId}{r:wA}(iA:o.op=.alloc e:=by exact rfl)(ht:en.ty e=some r:=by exact rfl)(hd:o.dst=some d:=by exact rfl)(hn:d<n:=by decide)(zz:∀blk,K ((d,.pointer (some ⟨blk,0,none⟩))::R) ((blk,true,.cells ⟨r.zero.cells.toList⟩ e (0,0))::L)):Or M n H₀ R L o K:=
 Or.alloc (E:=en) iA ht hd hn zz
theorem Or.bs {t e:TypeId}{len:Nat}{ps:Array (Nat×Operand)}{parts:List (Nat×Value)}{r re:wA}{l:List Value}(iA:o.op=.buildSlice t len ps:=by exact rfl)(jY:jO R ps.toList=some parts:=by exact rfl)(ht:en.ty t=some r:=by exact rfl)(LB:r.ds=.slice e:=by exact rfl)(ZC:en.ty e=some re:=by exact rfl)(QD:Nat.ble (len*re.size) 16777216=true:=by exact rfl)(hv:mL (fun i=> some (i*re.size,re.size)) (mC re.zero.cells.toList (len*re.size)) parts=some l:=by exact rfl)(hd:o.dst=some d:=by exact rfl)(hn:d<n:=by decide)(zz:∀blk,K ((d,.slice (some ⟨blk,0,none⟩) len len)::R) ((blk,true,.cells ⟨l⟩ e (0,0))::L)):Or M n H₀ R L o K:=
 Or.buildSlice (E:=en) iA jY ht LB ZC QD hv hd hn zz
theorem Or.st(i:Nat){t:TypeId}{x y:Operand}{r:wA}{blk off:Nat}{c c':List Value}{e:TypeId}(iA:o.op=.store t x y:=by exact rfl)(hx:GA R x=some (.pointer (some ⟨blk,off,none⟩)):=by exact rfl)(hy:GA R y=some v:=by exact rfl)(hi:L[i]? =some (blk,true,.cells ⟨c⟩ e (0,0)):=by exact rfl)(ht:en.ty t=some r:=by exact rfl)(hz:Nat.beq v.cells.toList.length r.size=true:=by exact rfl)(h0:Nat.beq r.size 0=false:=by exact rfl)(hl:Nat.ble (off+r.size) c.length=true:=by first|exact rfl|assumption)(hs:v.cells.toList.all single=true:=by exact rfl)(hd:o.dst=none:=by exact rfl)(hc:IE c off v.cells.toList=c':=by first|assumption|exact rfl)(zz:K R (L.set i (blk,true,.cells ⟨c'⟩ e (0,0)))):Or M n H₀ R L o K:=
 Or.storeT (E:=en) i iA hx hy hi ht hz h0 hl hs hd hc zz
theorem To.x(h:oA Tryz.prog n H₀ R L o v)(kk:To M St n b H₀ cs dl ((d,v)::R) L ds l k)(h1:JA dl R o=some true:=by exact rfl)(h2:AA o.op=false:=by exact rfl)(h3:o.dst=some d:=by exact rfl)(h4:d<n:=by decide):To M St n b H₀ cs dl R L ds (o::l) k:=To.op h1 h2 (Or.O6 h h3 h4 kk)
theorem To.e(h:Or M n H₀ R L o fun R' L'=> To M St n b H₀ cs dl R' L' ds l k)(h1:JA dl R o=some true:=by exact rfl)(h2:AA o.op=false:=by exact rfl):To M St n b H₀ cs dl R L ds (o::l) k:=To.op h1 h2 h
theorem To.c {cl:Go.Call}{x:Operand}{fv:Value}{az:List Value}(iA:o.op=.call cl)(PB:cl.callee=.value x)(hx:GA R x=some fv)(has:aE R cl.args.toList=some az)(hc:∀H,eA H₀ L H->UC M fv az H fun u H'=> H.le H'/\u=v)(kk:To M St n b H₀ cs dl ((d,v)::R) L ds l k)(h1:JA dl R o=some true:=by exact rfl)(h2:AA o.op=false:=by exact rfl)(h3:o.dst=some d:=by exact rfl)(h4:d<n:=by decide):To M St n b H₀ cs dl R L ds (o::l) k:=To.op h1 h2 (Or.ofT (oA.GN iA PB hx has hc) h3 h4 kk)
theorem To.sk(kk:To M St n b H₀ cs dl ((d,undef)::R) L ds l k)(h3:o.dst=some d:=by exact rfl)(h4:d<n:=by decide)(h1:JA dl R o=some false:=by exact rfl):To M St n b H₀ cs dl R L ds (o::l) k:=To.mM h3 h4 h1 kk
theorem Tc.tt {c:Operand}{x y:Code}(hc:GA R c=some (.bool true))(h:Tc M St n b H₀ cs R L ds (.code x::k)):Tc M St n b H₀ cs R L ds (.code (.cond c x y)::k):=Tc.cond (t:=true) hc (fun _=> h) (fun h=> nomatch h)
theorem Tc.ff {c:Operand}{x y:Code}(hc:GA R c=some (.bool false))(h:Tc M St n b H₀ cs R L ds (.code y::k)):Tc M St n b H₀ cs R L ds (.code (.cond c x y)::k):=Tc.cond (t:=false) hc (fun h=> nomatch h) (fun _=> h)
theorem UC.f {g:FuncId}{az:List Value}{as':Array Value}{H:View}{Q:Value->View->Prop}(hg:rA Tryz.prog g=true)(zA:([]++az++[]).toArray=as')(h:cA M g as' H Q):UC M (.func (.func g) #[] #[]) az H Q:=UC.of (first:= []) (captured:= []) hg zA h
theorem So.x {dl:List (Option Tmp)}{l:List Oper}(hp:oC Tryz.prog sh n R o v)(h:So J n b cs dl ((d,v)::R) ds l k)(hc:Cl Tryz.prog main sh J:=by first|exact Jm.cl|exact Jw.RG rfl|exact Jw.QG|exact Jq.cl|exact hc)(lG:o.dst=some d:=by exact rfl)(hn:Nat.blt d n=true:=by exact rfl)(hw:JA dl R o=some true:=by exact rfl)(UI:AA o.op=false:=by exact rfl):So J n b cs dl R ds (o::l) k:=So.opD hc lG hn hw UI hp h
theorem So.sk {dl:List (Option Tmp)}{l:List Oper}(h:So J n b cs dl ((d,undef)::R) ds l k)(hc:Cl Tryz.prog main sh J:=by first|exact Jm.cl|exact Jw.RG rfl|exact Jw.QG|exact Jq.cl|exact hc)(lG:o.dst=some d:=by exact rfl)(hn:Nat.blt d n=true:=by exact rfl)(hw:JA dl R o=some false:=by exact rfl):So J n b cs dl R ds (o::l) k:=So.S0 hc lG hn hw h
theorem Sc.rg {id:Nat}{ops:Array Oper}{dl:List (Option Tmp)}{l:List Oper}(hl:ops.toList=l)(nR:l.map (fun o:Oper=> o.dst)=dl)(h:So J n b cs dl R ds l k)(hc:Cl Tryz.prog main sh J:=by first|exact Jm.cl|exact Jw.RG rfl|exact Jw.QG|exact Jq.cl|exact hc):Sc J n b cs R ds (.code (.region id ops false)::k):=Sc.region hc hl nR h
theorem So.dn {dl:List (Option Tmp)}(h:Sc J n b cs R ds k)(hc:Cl Tryz.prog main sh J:=by first|exact Jm.cl|exact Jw.RG rfl|exact Jw.QG|exact Jq.cl|exact hc):So J n b cs dl R ds [] k:=So.done hc h
theorem Sc.sq {x y:Code}(h:Sc J n b cs R ds (.code x:: .code y::k))(hc:Cl Tryz.prog main sh J:=by first|exact Jm.cl|exact Jw.RG rfl|exact Jw.QG|exact Jq.cl|exact hc):Sc J n b cs R ds (.code (.seq x y)::k):=Sc.seq hc h
theorem Sc.sp(h:Sc J n b cs R ds k)(hc:Cl Tryz.prog main sh J:=by first|exact Jm.cl|exact Jw.RG rfl|exact Jw.QG|exact Jq.cl|exact hc):Sc J n b cs R ds (.code .skip::k):=Sc.skip hc h
theorem Sc.bl {id:Nat}{c:Code}(h:Sc J n b cs R ds (.code c:: .inBlock id::k))(hc:Cl Tryz.prog main sh J:=by first|exact Jm.cl|exact Jw.RG rfl|exact Jw.QG|exact Jq.cl|exact hc):Sc J n b cs R ds (.code (.block id c)::k):=Sc.block hc h
theorem Sc.ib {id:Nat}(h:Sc J n b cs R ds k)(hc:Cl Tryz.prog main sh J:=by first|exact Jm.cl|exact Jw.RG rfl|exact Jw.QG|exact Jq.cl|exact hc):Sc J n b cs R ds (.inBlock id::k):=Sc.inBlock hc h
theorem Sc.xt {id:Nat}{k':List Item}(he:exitTo id k=some k')(h:Sc J n b cs R ds k')(hc:Cl Tryz.prog main sh J:=by first|exact Jm.cl|exact Jw.RG rfl|exact Jw.QG|exact Jq.cl|exact hc):Sc J n b cs R ds (.code (.exit id)::k):=Sc.exit hc he h
theorem Sc.tt {c:Operand}{x y:Code}(hx:GA R c=some (.bool true))(h:Sc J n b cs R ds (.code x::k))(hc:Cl Tryz.prog main sh J:=by first|exact Jm.cl|exact Jw.RG rfl|exact Jw.QG|exact Jq.cl|exact hc):Sc J n b cs R ds (.code (.cond c x y)::k):=Sc.cond hc (t:=true) hx (fun _=> h) (fun h=> nomatch h)
theorem Sc.ff {c:Operand}{x y:Code}(hx:GA R c=some (.bool false))(h:Sc J n b cs R ds (.code y::k))(hc:Cl Tryz.prog main sh J:=by first|exact Jm.cl|exact Jw.RG rfl|exact Jw.QG|exact Jq.cl|exact hc):Sc J n b cs R ds (.code (.cond c x y)::k):=Sc.cond hc (t:=false) hx (fun h=> nomatch h) (fun _=> h)
end
section
variable {M:Md Tryz.prog}{St:View->Goroutine->Prop}{n:Nat}{b:FB}{H₀:View}{cs:List Frame}{R:Rg}{L L₁:Bl}{ds:List Deferred}{k:List Item}{md:Region.Mode}{ops:Array Oper}{fuel:Nat}{listed:Array Bool}{B:List Nat}{Ls:Bl}{o:Oper}{d:Nat}{v:Value}
theorem Ta.q {H₁:View}(i:Nat)(hi:ops[i]? =some o)(hv:oA Tryz.prog n H₀ R L o v)(h:Ta M St n b H₁ cs (S2 H₀ B Ls L) md ops fuel (listed.setIfInBounds i true) ((d,v)::R) L₁ ds k)(hc:JD md ops B listed i=true:=by kernel_rfl)(hd:o.dst=some d:=by exact rfl)(hn:d<n:=by decide)(nC:AA o.op=false:=by exact rfl)(hw:JA (ops.toList.map (fun o:Oper=> o.dst)) R o=some true:=by exact rfl):
 Ta M St n b H₁ cs (S2 H₀ B Ls L) md ops (fuel+1) listed R L₁ ds k:=Ta.tk i hc hi hd hn nC hw (oA.take hv) h
end
end Go.RL
namespace Go.RL
open Go.Conc
abbrev jA(l:List UInt8):Value:=.string ⟨⟨l⟩⟩
theorem PT(l:List UInt8):(ByteArray.mk ⟨l⟩).toList=l:=ByteArray.toList_eq _
theorem QT(l:List UInt8):(ByteArray.mk ⟨l⟩).size=l.length:=rfl
theorem UW(l m:List UInt8):(ByteArray.mk ⟨l⟩++ByteArray.mk ⟨m⟩)=ByteArray.mk ⟨l++m⟩:=by
 apply ByteArray.ext
 apply Array.ext'
 simp
theorem EO(l:List UInt8)(a b:Nat):(ByteArray.mk ⟨l⟩).extract a b=ByteArray.mk ⟨(l.drop a).take (b-a)⟩:=by
 apply ByteArray.ext
 apply Array.ext'
 simp[List.take_drop]
section
variable {P:Program}{E:Env P}{M:Md P}{n:Nat}{H₀:View}{R:Rg}{L L':Bl}{K:Rg->Bl->Prop}{o:Oper}{d:Nat}{v:Value}
theorem oA.aEy {t:TypeId}{x:Operand}{l:List UInt8}{cl:Go.Call}{r:wA}(iA:o.op=.call cl)(PB:cl.callee=.builtin .len)(VH:cl.argTypes=#[t])(sJ:cl.args=#[x])
  (hx:GA R x=some (jA l)) (ht:E.ty t=some r) (LB:r.ds=.str):oA P n H₀ R L o (.int .i64 (l.length:Nat)):=fun H tmps _ hr=> by
 unfold execOp;rw[iA];simp only[resolve,PB,VH,sJ];have hm:Array.map (uB tmps) #[x]=#[jA l]:=by simp[hr.ev hx]
 rw[hm];refine aA (Builtin.len_ #[t] o.type #[jA l]) _ (aA (underlying t) _ (dA (ZG ((E.ok _ _ ht).ds.trans LB)) ?_));exact⟨rfl,rfl⟩
def cC(op:BinOp)(l m:List UInt8):Option Value:=
 match op with
 | .add=> if l.length+m.length<=1000000000 then some (jA (l++m)) else none
 | .eql=> some (.bool (l==m))
 | .neq=> some (.bool (!(l==m)))
 | .lss=> some (.bool (Op.bytesLess l m))
 | .leq=> some (.bool (Op.bytesLess l m||l==m))
 | .gtr=> some (.bool (!(Op.bytesLess l m||l==m)))
 | .geq=> some (.bool (!(Op.bytesLess l m)))
 | _=> none
theorem dR {op:BinOp}{l m:List UInt8}{H:View}{Q:Value->View->Prop}(h:cC op l m=some v)(hq:Q v H):yA P (Op.stringOp op ⟨⟨l⟩⟩ ⟨⟨m⟩⟩) H Q:=by
 unfold Op.stringOp;simp only[PT,QT,UW];cases op <;> simp only[cC,Option.some.injEq,reduceCtorEq] at h <;> try (subst h;exact hq)
 split at h
 ·cases h
  have e:¬((l.length+m.length:Nat):Int)>IntKind.i64.max:=by
   have:IntKind.i64.max=9223372036854775807:=by decide
   omega
  rw[if_neg e];exact hq
 ·cases h
theorem oA.cC {op:BinOp}{t u:TypeId}{x y:Operand}{l m:List UInt8}(iA:o.op=.binOp op t x y u)(hx:GA R x=some (jA l))(hy:GA R y=some (jA m))(hz:RL.cC op l m=some v):oA P n H₀ R L o v:=fun H tmps _ hr=> by
 unfold execOp;rw[iA];simp only[hr.ev hx,hr.ev hy];refine aA _ _ ?_;have hg:yA P (eqGuard op t x y (jA l) (jA m)) H fun _ H'=> yA P (binOp op t (jA l) (jA m)) H' fun a H'=> yA P (Sem.pure (Next.value a)) H' fun nx H'=> nx=.value v/\H'=H:=by
  have h1:yA P (binOp op t (jA l) (jA m)) H fun a H'=> yA P (Sem.pure (Next.value a)) H' fun nx H'=> nx=.value v/\H'=H:=by
   have h2:=dR (P:=P) (H:=H) (Q:=fun a H'=> yA P (Sem.pure (Next.value a)) H' fun nx H'=> nx=.value v/\H'=H) hz ⟨rfl,rfl⟩;cases op <;> first|exact h2|(simp[RL.cC] at hz)
  cases op <;> exact h1
 exact aA _ _ hg
theorem oA.HD {t:TypeId}{x:Operand}{lo hi:Option Operand}{a b:Int}{l:List UInt8}{r:wA}(iA:o.op=.slice t x lo hi none)(hx:GA R x=some (jA l))(ht:E.ty t=some r)(LB:r.ds=.str)
  (eW:bound R lo 0=some a) (kU:bound R hi l.length=some b) (h0:0<=a) (h1:a<=b) (h2:b<=l.length):oA P n H₀ R L o (jA ((l.drop a.toNat).take (b.toNat-a.toNat))):=fun H tmps _ hr=> by
 unfold execOp;rw[iA];simp only[hr.ev hx];refine aA (Instr.sliceAt t _ _ _ _) _ ?_;refine aA (underlying t) _ (dA (ZG ((E.ok _ _ ht).ds.trans LB)) ?_);refine aA (underlying t) _ (dA (ZG ((E.ok _ _ ht).ds.trans LB)) ?_);show yA P ((Instr.sliceBounds false l.length l.length (lo.map (uB tmps)) (hi.map (uB tmps)) none).bind fun z=> Sem.pure (Value.string ((ByteArray.mk ⟨l⟩).extract z.1 z.2.1))) H _;refine aA _ _ (cF hr eW kU h0 h1 h2 ?_);show Next.value (.string ((ByteArray.mk ⟨l⟩).extract a.toNat b.toNat))=_/\_;rw[EO];exact⟨rfl,rfl⟩
theorem ZB {l m:List UInt8}(h:l.length+m.length<=1000000000):RL.cC .add l m=some (jA (l++m)):=if_pos h
theorem JK(l:List UInt8)(i:Nat):(ByteArray.mk ⟨l⟩)[i]? =l[i]? :=by
 by_cases h:i<l.length
 ·rw[List.getElem?_eq_getElem h];exact getElem?_pos (ByteArray.mk ⟨l⟩) i h
 ·rw[List.getElem?_eq_none oM];exact getElem?_neg (ByteArray.mk ⟨l⟩) i h
theorem oA.uJ {t:TypeId}{x y:Operand}{ik:IntKind}{j:Int}{l:List UInt8}{c:UInt8}{r:wA}(iA:o.op=.index t x y)(hx:GA R x=some (jA l))(hy:GA R y=some (.int ik j))(ht:E.ty t=some r)(LB:r.ds=.str)(h0:0<=j)(hb:l[j.toNat]? =some c):
 oA P n H₀ R L o (.int .u8 (c.toNat:Nat)):=oA.jK iA hx hy (ZG ((E.ok _ _ ht).ds.trans LB)) h0 (by rw[JK];exact hb)
theorem oA.min {t u:TypeId}{x y:Operand}{k:IntKind}{p q z:Int}{cl:Go.Call}(iA:o.op=.call cl)(PB:cl.callee=.builtin .min)(VH:cl.argTypes=#[t,u])(sJ:cl.args=#[x,y])(hx:GA R x=some (.int k p))(hy:GA R y=some (.int k q))(hz:(if q<p then q else p)=z):
  oA P n H₀ R L o (.int k z):=fun H tmps _ hr=> by
 unfold execOp;rw[iA];simp only[resolve,PB,VH,sJ];have hm:Array.map (uB tmps) #[x,y]=#[.int k p,.int k q]:=by simp[hr.ev hx,hr.ev hy]
 rw[hm,<-hz];exact⟨rfl,rfl⟩
end
end Go.RL
namespace Go.RL
open Go.Conc Go.Proofs Go.Proofs.YtgkmnalhddmclaaGreatDoor
set_option maxRecDepth 10000
section
variable {M:Md Tryz.prog}{St:View->Goroutine->Prop}{n:Nat}{b:FB}{H₀:View}{cs:List Frame}{R:Rg}{L:Bl}{ds:List Deferred}{k:List Item}{dl:List (Option Tmp)}{l:List Oper}{o:Oper}{d:Nat}{v:Value}{main:Bool}{sh:Z3}{J:Goroutine->Prop}
theorem To.m {x:Operand}(kk:To M St n b H₀ cs dl ((d,v)::R) L ds l k)(iA:o.op=.move x:=by exact rfl)(hx:GA R x=some v:=by exact rfl)(h1:JA dl R o=some true:=by exact rfl)(h2:AA o.op=false:=by exact rfl)(h3:o.dst=some d:=by exact rfl)(h4:d<n:=by decide):To M St n b H₀ cs dl R L ds (o::l) k:=To.op h1 h2 (Or.O6 (oA.move iA hx) h3 h4 kk)
theorem To.g {x:Operand}(kk:To M St n b H₀ cs dl ((d,v)::R) L ds l k)(iA:o.op=.assign x:=by exact rfl)(hx:GA R x=some v:=by exact rfl)(h1:JA dl R o=some true:=by exact rfl)(h2:AA o.op=false:=by exact rfl)(h3:o.dst=some d:=by exact rfl)(h4:d<n:=by decide):To M St n b H₀ cs dl R L ds (o::l) k:=To.op h1 h2 (Or.O6 (oA.assign iA hx) h3 h4 kk)
theorem To.i {op:BinOp}{t u:TypeId}{x y:Operand}{ik:IntKind}{p q:Int}(kk:To M St n b H₀ cs dl ((d,v)::R) L ds l k)(iA:o.op=.binOp op t x y u:=by exact rfl)(hx:GA R x=some (.int ik p):=by exact rfl)(hy:GA R y=some (.int ik q):=by exact rfl)(h1:JA dl R o=some true:=by exact rfl)(h2:AA o.op=false:=by exact rfl)(h3:o.dst=some d:=by exact rfl)(h4:d<n:=by decide)(z:gA op ik p q=some v):To M St n b H₀ cs dl R L ds (o::l) k:=To.op h1 h2 (Or.O6 (oA.int iA hx hy z) h3 h4 kk)
theorem To.j {op:BinOp}{t u:TypeId}{x y:Operand}{ik:IntKind}{p q:Int}(kk:To M St n b H₀ cs dl ((d,v)::R) L ds l k)(iA:o.op=.binOp op t x y u:=by exact rfl)(hx:GA R x=some (.int ik p):=by exact rfl)(hy:GA R y=some (.int ik q):=by exact rfl)(z:gA op ik p q=some v:=by first|exact tC (by omega) (by omega)|exact GF (by omega) (by omega)|exact bP (by omega)|exact mK (by omega)|exact DC (by omega)|exact SC (by omega)|exact vC (by omega)|exact CB (by omega)|exact QM (by omega)|exact PM (by omega)|exact zF (by omega)|exact UF (by omega)|exact DG (by omega)|exact VF (by omega))(h1:JA dl R o=some true:=by exact rfl)(h2:AA o.op=false:=by exact rfl)(h3:o.dst=some d:=by exact rfl)(h4:d<n:=by decide):To M St n b H₀ cs dl R L ds (o::l) k:=To.op h1 h2 (Or.O6 (oA.int iA hx hy z) h3 h4 kk)
theorem To.mm {o':Oper}{d':Nat}{v':Value}{x y:Operand}(kk:To M St n b H₀ cs dl ((d',v')::(d,v)::R) L ds l k)(iA:o.op=.move x:=by exact rfl)(hx:GA R x=some v:=by exact rfl)(h1:JA dl R o=some true:=by exact rfl)(h2:AA o.op=false:=by exact rfl)(h3:o.dst=some d:=by exact rfl)(h4:d<n:=by decide)(gop:o'.op=.move y:=by exact rfl)(gx:GA ((d,v)::R) y=some v':=by exact rfl)(g1:JA dl ((d,v)::R) o'=some true:=by exact rfl)(g2:AA o'.op=false:=by exact rfl)(g3:o'.dst=some d':=by exact rfl)(g4:d'<n:=by decide):To M St n b H₀ cs dl R L ds (o::o'::l) k:=To.m (To.m kk gop gx g1 g2 g3 g4) iA hx h1 h2 h3 h4
theorem Tc.r {id:Nat}{ops:Array Oper}(h:To M St n b H₀ cs dl R L ds l k)(hl:ops.toList=l:=by exact rfl)(nR:l.map (fun o:Oper=> o.dst)=dl:=by exact rfl):Tc M St n b H₀ cs R L ds (.code (.region id ops false)::k):=Tc.region hl nR h
theorem Tc.sr {id:Nat}{ops:Array Oper}{y:Code}(h:To M St n b H₀ cs dl R L ds l (.code y::k))(hl:ops.toList=l:=by exact rfl)(nR:l.map (fun o:Oper=> o.dst)=dl:=by exact rfl):Tc M St n b H₀ cs R L ds (.code (.seq (.region id ops false) y)::k):=Tc.seq (Tc.region hl nR h)
theorem Tc.db {L':Bl}{todo:List Item}{R':Rg}(h:Tc M St n b H₀ cs R' L' ds todo)(hR:WB R' R:=by repeat (first|exact trivial|refine⟨rfl,?_⟩))(hL:L'.Sublist L:=by repeat (first|exact List.Sublist.refl _|exact List.nil_sublist _|exact List.sublist_append_left _ _|apply List.Sublist.cons_cons|apply List.Sublist.cons)):Tc M St n b H₀ cs R L ds todo:=Tc.PC h hR hL
theorem Tc.rt {fn:Func}{c:Frame}{Q:Value->View->Prop}{f:FuncId}{rs:List ResultVar}(hK:∀v H',Q v H'->T M St H' (G (c.finish v) cs))(hf:Tryz.prog.funcs[f]? =some fn)(TN:fn.results=rs.toArray)(vs:List Value)(h:∀H',eA H₀ L H'->Q (TC vs) H')
 (ho:OH en R L rs vs:=by repeat (first|exact trivial|refine⟨rfl,?_⟩|refine⟨⟨0,_,_,_,_,_,_,_,rfl,rfl,rfl,rfl⟩,?_⟩|refine⟨⟨1,_,_,_,_,_,_,_,rfl,rfl,rfl,rfl⟩,?_⟩|refine⟨⟨2,_,_,_,_,_,_,_,rfl,rfl,rfl,rfl⟩,?_⟩|refine⟨⟨3,_,_,_,_,_,_,_,rfl,rfl,rfl,rfl⟩,?_⟩|refine⟨⟨4,_,_,_,_,_,_,_,rfl,rfl,rfl,rfl⟩,?_⟩|refine⟨⟨5,_,_,_,_,_,_,_,rfl,rfl,rfl,rfl⟩,?_⟩|refine⟨⟨6,_,_,_,_,_,_,_,rfl,rfl,rfl,rfl⟩,?_⟩)):Tc M St n ⟨f,.normal,none⟩ H₀ (c::cs) R L [] (.code .ret::k):=Tc.aAG (E:=en) hK hf TN ho h
theorem Tc.ov {fn:Func}{c:Frame}{Q:Value->View->Prop}{f:FuncId}{rs:List ResultVar}(hK:∀v H',Q v H'->T M St H' (G (c.finish v) cs))(hf:Tryz.prog.funcs[f]? =some fn)(TN:fn.results=rs.toArray)(vs:List Value)(h:∀H',eA H₀ L H'->Q (TC vs) H')
 (ho:OH en R L rs vs:=by repeat (first|exact trivial|refine⟨rfl,?_⟩|refine⟨⟨0,_,_,_,_,_,_,_,rfl,rfl,rfl,rfl⟩,?_⟩|refine⟨⟨1,_,_,_,_,_,_,_,rfl,rfl,rfl,rfl⟩,?_⟩|refine⟨⟨2,_,_,_,_,_,_,_,rfl,rfl,rfl,rfl⟩,?_⟩|refine⟨⟨3,_,_,_,_,_,_,_,rfl,rfl,rfl,rfl⟩,?_⟩|refine⟨⟨4,_,_,_,_,_,_,_,rfl,rfl,rfl,rfl⟩,?_⟩|refine⟨⟨5,_,_,_,_,_,_,_,rfl,rfl,rfl,rfl⟩,?_⟩|refine⟨⟨6,_,_,_,_,_,_,_,rfl,rfl,rfl,rfl⟩,?_⟩)):Tc M St n ⟨f,.normal,none⟩ H₀ (c::cs) R L [] []:=Tc.aCW (E:=en) hK hf TN ho h
theorem To.bo {e:TypeId}{x:Operand}(kk:∀blk,To M St n b H₀ cs dl ((d,.pointer (some ⟨blk,0,none⟩))::R) ((blk,true,.cells ⟨v.cells.toList⟩ e (0,0))::L) ds l k)(iA:o.op=.box e x:=by exact rfl)(hx:GA R x=some v:=by exact rfl)(h1:JA dl R o=some true:=by exact rfl)(h2:AA o.op=false:=by exact rfl)(h3:o.dst=some d:=by exact rfl)(h4:d<n:=by decide):To M St n b H₀ cs dl R L ds (o::l) k:=To.op h1 h2 (Or.box iA h3 h4 hx kk)
theorem To.al {e:TypeId}{r:wA}(kk:∀blk,To M St n b H₀ cs dl ((d,.pointer (some ⟨blk,0,none⟩))::R) ((blk,true,.cells ⟨r.zero.cells.toList⟩ e (0,0))::L) ds l k)(iA:o.op=.alloc e:=by exact rfl)(ht:en.ty e=some r:=by exact rfl)(h1:JA dl R o=some true:=by exact rfl)(h2:AA o.op=false:=by exact rfl)(h3:o.dst=some d:=by exact rfl)(h4:d<n:=by decide):To M St n b H₀ cs dl R L ds (o::l) k:=To.op h1 h2 (Or.alloc (E:=en) iA ht h3 h4 kk)
theorem Ta.z {H₁:View}(i:Nat){md:Region.Mode}{ops:Array Oper}{B:List Nat}{Ls L₁:Bl}{fuel:Nat}{listed:Array Bool}(hi:ops[i]? =some o)
 (hv:∀H tmps,eA H₀ L H->PA n R tmps->SD M o tmps H fun u H'=> u=v/\H.le H')
 (h:Ta M St n b H₁ cs (S2 H₀ B Ls L) md ops fuel (listed.setIfInBounds i true) ((d,v)::R) L₁ ds k) (hc:JD md ops B listed i=true:=by kernel_rfl) (hd:o.dst=some d:=by exact rfl) (hn:d<n:=by decide) (nC:AA o.op=false:=by exact rfl) (hw:JA (ops.toList.map (fun o:Oper=> o.dst)) R o=some true:=by exact rfl):
 Ta M St n b H₁ cs (S2 H₀ B Ls L) md ops (fuel+1) listed R L₁ ds k:=Ta.tk i hc hi hd hn nC hw hv h
theorem So.m {x:Operand}(h:So J n b cs dl ((d,v)::R) ds l k)(iA:o.op=.move x:=by exact rfl)(hx:GA R x=some v:=by exact rfl)(hc:Cl Tryz.prog main sh J:=by first|exact Jm.cl|exact Jw.RG rfl|exact Jw.QG|exact Jq.cl|exact hc)(lG:o.dst=some d:=by exact rfl)(hn:Nat.blt d n=true:=by exact rfl)(hw:JA dl R o=some true:=by exact rfl)(UI:AA o.op=false:=by exact rfl):So J n b cs dl R ds (o::l) k:=So.opD hc lG hn hw UI (sh:=sh) (oC.move iA hx) h
theorem So.g {x:Operand}(h:So J n b cs dl ((d,v)::R) ds l k)(iA:o.op=.assign x:=by exact rfl)(hx:GA R x=some v:=by exact rfl)(hc:Cl Tryz.prog main sh J:=by first|exact Jm.cl|exact Jw.RG rfl|exact Jw.QG|exact Jq.cl|exact hc)(lG:o.dst=some d:=by exact rfl)(hn:Nat.blt d n=true:=by exact rfl)(hw:JA dl R o=some true:=by exact rfl)(UI:AA o.op=false:=by exact rfl):So J n b cs dl R ds (o::l) k:=So.opD hc lG hn hw UI (sh:=sh) (oC.assign iA hx) h
theorem So.i {op:BinOp}{u u':TypeId}{x y:Operand}{ik:IntKind}{p q:Int}(h:So J n b cs dl ((d,v)::R) ds l k)(iA:o.op=.binOp op u x y u':=by exact rfl)(hx:GA R x=some (.int ik p):=by exact rfl)(hy:GA R y=some (.int ik q):=by exact rfl)(hc:Cl Tryz.prog main sh J:=by first|exact Jm.cl|exact Jw.RG rfl|exact Jw.QG|exact Jq.cl|exact hc)(lG:o.dst=some d:=by exact rfl)(hn:Nat.blt d n=true:=by exact rfl)(hw:JA dl R o=some true:=by exact rfl)(UI:AA o.op=false:=by exact rfl)(z:gA op ik p q=some v):So J n b cs dl R ds (o::l) k:=So.opD hc lG hn hw UI (sh:=sh) (oC.int iA hx hy z) h
end
theorem cA.en {M:Md Tryz.prog}{f:FuncId}{fn:Func}{body:Code}{n:Nat}{vs:List Value}{H:View}{Q:Value->View->Prop}(hf:Tryz.prog.funcs[f]? =some fn)(hn:fn.ntmps=n)
 (h:∀St c cs,(∀v H',Q v H'->T M St H' (G (c.finish v) cs))->Tc M St n ⟨f,.normal,none⟩ H (c::cs) (lJ vs) [] [] [.code body]) (hb:fn.body=some body:=by exact rfl) (hv:vs.length<=n:=by exact Nat.le_of_ble_eq_true rfl):cA M f vs.toArray H Q:=cA.enter hf hb hn hv (eA.nil _) h
theorem okB {H:View}{L:Bl}{v:Value}:∀H':View,eA H L H'->H.le H'/\v=v:=fun _ hs=> ⟨hs.base,rfl⟩
theorem cA.is {P:Program}{M:Md P}{f:FuncId}{az:Array Value}{H:View}{w:Value}(w':Value)(e:w=w')(h:cA M f az H fun v H'=> H.le H'/\v=w):cA M f az H fun v H'=> H.le H'/\v=w':=e▸h
section
variable {n:Nat}{H₀:View}{R:Rg}{L:Bl}{o:Oper}{v:Value}
theorem oA.a(h:oA Tryz.prog n H₀ R L o v:=by first|exact .mv|exact .sg|exact .fa|exact .pk|exact .et|exact .ln|exact .nt|exact .nk|exact .bu|exact .mf|exact .cv|exact .eb|exact .nb|exact .ia|exact .ib|exact .fd|exact .ld 0|exact .ld 1|exact .ld 2|exact .ld 3|exact .ld 4|exact .ld 5|exact .ld 6|exact .l0|exact .it (zz:=by first|assumption|exact GF oM oM|exact tC oM oM|exact bP oM|exact mK oM|exact DC oM|exact SC oM|exact vC oM|exact CB oM|exact QM oM|exact PM oM|exact zF oM|exact UF oM|exact DG oM|exact VF oM|exact rfl)|exact oA.aEy (E:=en) rfl rfl rfl rfl rfl rfl rfl|exact oA.cC rfl rfl rfl (by first|assumption|exact rfl)|exact oA.uJ (E:=en) rfl rfl rfl rfl rfl oM (by assumption)):oA Tryz.prog n H₀ R L o v:=h
end
section
variable {M:Md Tryz.prog}{St:View->Goroutine->Prop}{n:Nat}{b:FB}{H₀ H₁:View}{cs:List Frame}{R:Rg}{L Ls L₁:Bl}{ds:List Deferred}{k:List Item}{md:Region.Mode}{ops:Array Oper}{fuel:Nat}{listed:Array Bool}{B C:List Nat}{o:Oper}{d:Nat}{v:Value}{S:Array Bool->View->Prop}
theorem Ta.nn(i:Nat)(h:Ta M St n b H₁ cs (S2 H₀ B Ls L) md ops fuel (listed.setIfInBounds i true) ((d,v)::R) L₁ ds k)(hi:ops[i]? =some o:=by exact rfl)
 (hc:JD md ops B listed i=true:=by kernel_rfl) (ho:oA Tryz.prog n H₀ R L o v:=by exact .a) (hw:JA (ops.toList.map (fun o:Oper=> o.dst)) R o=some true:=by exact rfl) (hd:o.dst=some d:=by exact rfl) (hn:d<n:=by decide) (nC:AA o.op=false:=by exact rfl):Ta M St n b H₁ cs (S2 H₀ B Ls L) md ops (fuel+1) listed R L₁ ds k:=Ta.tk i hc hi hd hn nC hw (oA.take ho) h
theorem Ta.nw(i:Nat)(h:Ta M St n b H₁ cs (S2 H₀ B Ls L) md ops fuel (listed.setIfInBounds i true) ((d,v)::R) L₁ ds k)(hi:ops[i]? =some o:=by exact rfl)
  (hc:JD md ops [] listed i=true:=by kernel_rfl) (hb:B.contains i=false:=by exact rfl) (hv:JA (ops.toList.map (fun o:Oper=> o.dst)) R o=some false/\v=undef\/JA (ops.toList.map (fun o:Oper=> o.dst)) R o=some true/\oA Tryz.prog n H₀ R Ls o v:=by first|exact .inl ⟨rfl,rfl⟩|exact .inr ⟨rfl,.a⟩) (hd:o.dst=some d:=by exact rfl) (hn:d<n:=by decide) (nC:AA o.op=false:=by exact rfl):Ta M St n b H₁ cs (S2 H₀ B Ls L) md ops (fuel+1) listed R L₁ ds k:=by
 rcases hv with ⟨hw,rfl⟩|⟨hw,ho⟩
 ·exact Ta.ps i hc hb hi hd hn nC hw h
 ·exact Ta.tkw i hc hb hi hd hn nC hw (oA.take ho) h
theorem Ta.oo(i:Nat)(h:Ta M St n b H₀ cs (S3 H₀ B C Ls L) md ops fuel (listed.setIfInBounds i true) ((d,v)::R) L₁ ds k)(hi:ops[i]? =some o:=by exact rfl)
 (hc:TQ md ops B C listed i=true:=by kernel_rfl) (ho:oA Tryz.prog n H₀ R L o v:=by exact .a) (hw:JA (ops.toList.map (fun o:Oper=> o.dst)) R o=some true:=by exact rfl) (hd:o.dst=some d:=by exact rfl) (hn:d<n:=by decide) (nC:AA o.op=false:=by exact rfl):Ta M St n b H₀ cs (S3 H₀ B C Ls L) md ops (fuel+1) listed R L₁ ds k:=Ta.tkC i hc hi hd hn nC hw (oA.take ho) h
theorem Ta.ea(i:Nat)(ho:ops[i]? =some o)(h:Or M n H₀ R L o fun R' L'=> (∀H,eA H₀ L' H->S (listed.setIfInBounds i true) H)/\Ta M St n b H₀ cs S md ops fuel (listed.setIfInBounds i true) R' L' ds k)(hr:Region.ready md ops listed= [i]:=by kernel_rfl)(hd:AA o.op=false:=by exact rfl)(hw:JA (ops.toList.map (fun o:Oper=> o.dst)) R o=some true:=by exact rfl):Ta M St n b H₀ cs S md ops (fuel+1) listed R L ds k:=Ta.each [i] hr rfl ⟨yG.mk ho hd hw h,trivial⟩
theorem Ta.dn(h:Tc M St n b H₀ cs R L ds k)(hr:Region.ready md ops listed= []:=by kernel_rfl):Ta M St n b H₀ cs S md ops fuel listed R L ds k:=Ta.done hr h
theorem Ta.e(i j:Nat){t:TypeId}{x y:Operand}{r:wA}{blk off:Nat}{c c':List Value}{e:TypeId}(h:Ta M St n b H₀ cs (S2 H₁ B Ls L) md ops fuel (listed.setIfInBounds i true) R (L₁.set j (blk,true,.cells ⟨c'⟩ e (0,0))) ds k)(hi:ops[i]? =some o:=by exact rfl)(iA:o.op=.store t x y:=by exact rfl)(hx:GA R x=some (.pointer (some ⟨blk,off,none⟩)):=by exact rfl)(hy:GA R y=some v:=by exact rfl)(hj:L₁[j]? =some (blk,true,.cells ⟨c⟩ e (0,0)):=by exact rfl)(ht:en.ty t=some r:=by exact rfl)(hz:Nat.beq v.cells.toList.length r.size=true:=by exact rfl)(h0:Nat.beq r.size 0=false:=by exact rfl)(hl:Nat.ble (off+r.size) c.length=true:=by first|exact rfl|assumption)(hs:v.cells.toList.all single=true:=by exact rfl)(hd:o.dst=none:=by exact rfl)(hc:IE c off v.cells.toList=c':=by first|assumption|exact rfl)
  (hr:Region.ready md ops listed= [i]:=by kernel_rfl) (nC:AA o.op=false:=by exact rfl) (hw:JA (ops.toList.map (fun o:Oper=> o.dst)) R o=some true:=by exact rfl) (hS:∀H,eA H₀ (L₁.set j (blk,true,.cells ⟨c'⟩ e (0,0))) H->S2 H₁ B Ls L (listed.setIfInBounds i true) H:=by exact S2.mk (by repeat (first|exact List.Sublist.refl _|exact List.nil_sublist _|exact List.sublist_append_left _ _|apply List.Sublist.cons_cons|apply List.Sublist.cons)) (.inl kR)):Ta M St n b H₀ cs (S2 H₁ B Ls L) md ops (fuel+1) listed R L₁ ds k:=
 Ta.each [i] hr rfl ⟨yG.mk hi nC hw (Or.storeT (E:=en) j iA hx hy hj ht hz h0 hl hs hd hc ⟨hS,h⟩),trivial⟩
theorem UC.h {g:FuncId}{az:List Value}{as':Array Value}{H:View}{Q:Value->View->Prop}(h:cA M g as' H Q)(zA:([]++az++[]).toArray=as':=by exact rfl)(hg:rA Tryz.prog g=true:=by kernel_rfl):UC M (.func (.func g) #[] #[]) az H Q:=UC.of (first:= []) (captured:= []) hg zA h
theorem oA.tk {M:Md Tryz.prog}{n:Nat}{H₀:View}{R:Rg}{L:Bl}{o:Oper}{v:Value}{g:FuncId}{as':Array Value}{cl:Go.Call}{x:Operand}{az:List Value}(hc:∀H,eA H₀ L H->cA M g as' H fun u H'=> H.le H'/\u=v)(iA:o.op=.call cl:=by exact rfl)(PB:cl.callee=.value x:=by exact rfl)(hx:GA R x=some (.func (.func g) #[] #[]):=by exact rfl)(has:aE R cl.args.toList=some az:=by exact rfl)(zA:([]++az++[]).toArray=as':=by exact rfl)(hg:rA Tryz.prog g=true:=by kernel_rfl):∀H tmps,eA H₀ L H->PA n R tmps->SD M o tmps H fun u H'=> u=v/\H.le H':=
 oA.GN iA PB hx has fun H hs=> UC.h (hc H hs) zA hg
theorem To.cl {M:Md Tryz.prog}{St:View->Goroutine->Prop}{n:Nat}{b:FB}{H₀:View}{cs:List Frame}{R:Rg}{L:Bl}{ds:List Deferred}{k:List Item}{dl:List (Option Tmp)}{l:List Oper}{o:Oper}{d:Nat}{v:Value}{g:FuncId}{as':Array Value}{cl:Go.Call}{x:Operand}{az:List Value}(hc:∀H,eA H₀ L H->cA M g as' H fun u H'=> H.le H'/\u=v)(kk:To M St n b H₀ cs dl ((d,v)::R) L ds l k)(iA:o.op=.call cl:=by exact rfl)(PB:cl.callee=.value x:=by exact rfl)(hx:GA R x=some (.func (.func g) #[] #[]):=by exact rfl)(has:aE R cl.args.toList=some az:=by exact rfl)(zA:([]++az++[]).toArray=as':=by exact rfl)(hg:rA Tryz.prog g=true:=by kernel_rfl)(h1:JA dl R o=some true:=by exact rfl)(h2:AA o.op=false:=by exact rfl)(h3:o.dst=some d:=by exact rfl)(h4:d<n:=by decide):To M St n b H₀ cs dl R L ds (o::l) k:=
 To.op h1 h2 (Or.ofT (oA.GN iA PB hx has fun H hs=> UC.h (hc H hs) zA hg) h3 h4 kk)
end
def OJ(_:Nat)(Q P:Prop):Prop:=Q->P
section
variable {M:Md Tryz.prog}{St:View->Goroutine->Prop}{n:Nat}{b:FB}{H₀ H₁:View}{cs:List Frame}{R:Rg}{L Ls L₁:Bl}{ds:List Deferred}{k:List Item}{md:Region.Mode}{ops:Array Oper}{fuel:Nat}{listed:Array Bool}{B C:List Nat}{o:Oper}{d:Nat}{v:Value}
theorem OJ.a {i:Nat}(hi:ops[i]? =some o:=by exact rfl)(hc:JD md ops B listed i=true:=by kernel_rfl)(ho:oA Tryz.prog n H₀ R L o v:=by exact .a)(hw:JA (ops.toList.map (fun o:Oper=> o.dst)) R o=some true:=by exact rfl)(hd:o.dst=some d:=by exact rfl)(hn:d<n:=by decide)(nC:AA o.op=false:=by exact rfl):
 OJ i (Ta M St n b H₁ cs (S2 H₀ B Ls L) md ops fuel (listed.setIfInBounds i true) ((d,v)::R) L₁ ds k) (Ta M St n b H₁ cs (S2 H₀ B Ls L) md ops (fuel+1) listed R L₁ ds k):=fun h=> Ta.nn i h hi hc ho hw hd hn nC
end
theorem OJ.tr {i:Nat}{P Q R:Prop}(h:OJ i R P)(g:OJ (i+1) Q R):OJ i Q P:=fun q=> h (g q)
theorem V2(i:Nat){P Q:Prop}(q:Q)(h:OJ i Q P:=by(iterate 1 (apply OJ.tr;exact .a));exact .a):P:=h q
theorem V3(i:Nat){P Q:Prop}(q:Q)(h:OJ i Q P:=by(iterate 2 (apply OJ.tr;exact .a));exact .a):P:=h q
theorem V4(i:Nat){P Q:Prop}(q:Q)(h:OJ i Q P:=by(iterate 3 (apply OJ.tr;exact .a));exact .a):P:=h q
theorem V5(i:Nat){P Q:Prop}(q:Q)(h:OJ i Q P:=by(iterate 4 (apply OJ.tr;exact .a));exact .a):P:=h q
theorem V6(i:Nat){P Q:Prop}(q:Q)(h:OJ i Q P:=by(iterate 5 (apply OJ.tr;exact .a));exact .a):P:=h q
theorem V7(i:Nat){P Q:Prop}(q:Q)(h:OJ i Q P:=by(iterate 6 (apply OJ.tr;exact .a));exact .a):P:=h q
theorem V8(i:Nat){P Q:Prop}(q:Q)(h:OJ i Q P:=by(iterate 7 (apply OJ.tr;exact .a));exact .a):P:=h q
theorem V9(i:Nat){P Q:Prop}(q:Q)(h:OJ i Q P:=by(iterate 8 (apply OJ.tr;exact .a));exact .a):P:=h q
theorem V10(i:Nat){P Q:Prop}(q:Q)(h:OJ i Q P:=by(iterate 9 (apply OJ.tr;exact .a));exact .a):P:=h q
theorem V12(i:Nat){P Q:Prop}(q:Q)(h:OJ i Q P:=by(iterate 11 (apply OJ.tr;exact .a));exact .a):P:=h q
theorem V16(i:Nat){P Q:Prop}(q:Q)(h:OJ i Q P:=by(iterate 15 (apply OJ.tr;exact .a));exact .a):P:=h q
theorem V17(i:Nat){P Q:Prop}(q:Q)(h:OJ i Q P:=by(iterate 16 (apply OJ.tr;exact .a));exact .a):P:=h q
def Sp(Q P:Prop):Prop:=Q->P
section
variable {M:Md Tryz.prog}{St:View->Goroutine->Prop}{n:Nat}{b:FB}{H₀:View}{cs:List Frame}{R:Rg}{L:Bl}{ds:List Deferred}{k:List Item}{dl:List (Option Tmp)}{l:List Oper}{o:Oper}{d:Nat}{v:Value}
theorem Sp.a(hv:JA dl R o=some false/\v=undef\/JA dl R o=some true/\oA Tryz.prog n H₀ R L o v:=by first|exact .inl ⟨rfl,rfl⟩|exact .inr ⟨rfl,.a⟩)(h2:AA o.op=false:=by exact rfl)(h3:o.dst=some d:=by exact rfl)(h4:d<n:=by decide):Sp (To M St n b H₀ cs dl ((d,v)::R) L ds l k) (To M St n b H₀ cs dl R L ds (o::l) k):=fun kk=> by
 rcases hv with ⟨h1,rfl⟩|⟨h1,h⟩
 ·exact To.mM h3 h4 h1 kk
 ·exact To.op h1 h2 (Or.O6 h h3 h4 kk)
theorem Sp.w(i:Nat){t:TypeId}{x y:Operand}{r:wA}{blk off:Nat}{c c':List Value}{e:TypeId}(iA:o.op=.store t x y:=by exact rfl)(hx:GA R x=some (.pointer (some ⟨blk,off,none⟩)):=by exact rfl)(hy:GA R y=some v:=by exact rfl)(hi:L[i]? =some (blk,true,.cells ⟨c⟩ e (0,0)):=by exact rfl)(ht:en.ty t=some r:=by exact rfl)(hz:Nat.beq v.cells.toList.length r.size=true:=by exact rfl)(h0:Nat.beq r.size 0=false:=by exact rfl)(hl:Nat.ble (off+r.size) c.length=true:=by first|exact rfl|assumption)(hs:v.cells.toList.all single=true:=by exact rfl)(hd:o.dst=none:=by exact rfl)(hc:IE c off v.cells.toList=c':=by first|assumption|exact rfl)(h1:JA dl R o=some true:=by exact rfl)(h2:AA o.op=false:=by exact rfl):Sp (To M St n b H₀ cs dl R (L.set i (blk,true,.cells ⟨c'⟩ e (0,0))) ds l k) (To M St n b H₀ cs dl R L ds (o::l) k):=fun kk=> To.op h1 h2 (Or.storeT (E:=en) i iA hx hy hi ht hz h0 hl hs hd hc kk)
theorem Sp.dn:Sp (Tc M St n b H₀ cs R L ds k) (To M St n b H₀ cs dl R L ds [] k):=To.done
theorem Sp.s {x y:Code}:Sp (Tc M St n b H₀ cs R L ds (.code x:: .code y::k)) (Tc M St n b H₀ cs R L ds (.code (.seq x y)::k)):=Tc.seq
theorem Sp.r {id:Nat}{ops:Array Oper}(hl:ops.toList=l:=by exact rfl)(nR:l.map (fun o:Oper=> o.dst)=dl:=by exact rfl):Sp (To M St n b H₀ cs dl R L ds l k) (Tc M St n b H₀ cs R L ds (.code (.region id ops false)::k)):=Tc.region hl nR
theorem Sp.t {c:Operand}{x y:Code}(hc:GA R c=some (.bool true):=by exact rfl):Sp (Tc M St n b H₀ cs R L ds (.code x::k)) (Tc M St n b H₀ cs R L ds (.code (.cond c x y)::k)):=Tc.tt hc
theorem Sp.f {c:Operand}{x y:Code}(hc:GA R c=some (.bool false):=by exact rfl):Sp (Tc M St n b H₀ cs R L ds (.code y::k)) (Tc M St n b H₀ cs R L ds (.code (.cond c x y)::k)):=Tc.ff hc
theorem Sp.sk:Sp (Tc M St n b H₀ cs R L ds k) (Tc M St n b H₀ cs R L ds (.code .skip::k)):=Tc.skip
theorem Sp.bk {id:Nat}{c:Code}:Sp (Tc M St n b H₀ cs R L ds (.code c:: .inBlock id::k)) (Tc M St n b H₀ cs R L ds (.code (.block id c)::k)):=Tc.block
theorem Sp.i {id:Nat}:Sp (Tc M St n b H₀ cs R L ds k) (Tc M St n b H₀ cs R L ds (.inBlock id::k)):=Tc.inBlock
theorem Sp.e {id:Nat}{k':List Item}(he:exitTo id k=some k':=by exact rfl):Sp (Tc M St n b H₀ cs R L ds k') (Tc M St n b H₀ cs R L ds (.code (.exit id)::k)):=Tc.exit he
end
theorem Sp.on {P Q:Prop}(h:Sp Q P:=by first|exact .a|exact .dn|exact .s|exact .r|exact .t|exact .f|exact .sk|exact .bk|exact .i|exact .e|exact .w 0|exact .w 1|exact .w 2|exact .w 3|exact .w 4|exact .w 5|exact .w 6):Sp Q P:=h
theorem Sp.tr {P Q R:Prop}(h:Sp R P)(g:Sp Q R):Sp Q P:=fun q=> h (g q)
theorem U {P Q:Prop}(q:Q)(h:Sp Q P:=by exact .on):P:=h q
theorem U2 {P Q:Prop}(q:Q)(h:Sp Q P:=by(iterate 1 (apply Sp.tr;exact .on));exact .on):P:=h q
theorem U3 {P Q:Prop}(q:Q)(h:Sp Q P:=by(iterate 2 (apply Sp.tr;exact .on));exact .on):P:=h q
theorem U4 {P Q:Prop}(q:Q)(h:Sp Q P:=by(iterate 3 (apply Sp.tr;exact .on));exact .on):P:=h q
theorem U5 {P Q:Prop}(q:Q)(h:Sp Q P:=by(iterate 4 (apply Sp.tr;exact .on));exact .on):P:=h q
theorem U6 {P Q:Prop}(q:Q)(h:Sp Q P:=by(iterate 5 (apply Sp.tr;exact .on));exact .on):P:=h q
theorem U7 {P Q:Prop}(q:Q)(h:Sp Q P:=by(iterate 6 (apply Sp.tr;exact .on));exact .on):P:=h q
theorem U8 {P Q:Prop}(q:Q)(h:Sp Q P:=by(iterate 7 (apply Sp.tr;exact .on));exact .on):P:=h q
theorem U9 {P Q:Prop}(q:Q)(h:Sp Q P:=by(iterate 8 (apply Sp.tr;exact .on));exact .on):P:=h q
theorem zI {P Q:Prop}(q:Q)(h:Sp Q P:=by(iterate 9 (apply Sp.tr;exact .on));exact .on):P:=h q
theorem eF {P Q:Prop}(q:Q)(h:Sp Q P:=by(iterate 10 (apply Sp.tr;exact .on));exact .on):P:=h q
theorem JL {P Q:Prop}(q:Q)(h:Sp Q P:=by(iterate 11 (apply Sp.tr;exact .on));exact .on):P:=h q
theorem aJ {P Q:Prop}(q:Q)(h:Sp Q P:=by(iterate 12 (apply Sp.tr;exact .on));exact .on):P:=h q
theorem zH {P Q:Prop}(q:Q)(h:Sp Q P:=by(iterate 13 (apply Sp.tr;exact .on));exact .on):P:=h q
theorem WL {P Q:Prop}(q:Q)(h:Sp Q P:=by(iterate 14 (apply Sp.tr;exact .on));exact .on):P:=h q
theorem bJ {P Q:Prop}(q:Q)(h:Sp Q P:=by(iterate 15 (apply Sp.tr;exact .on));exact .on):P:=h q
theorem xT {P Q:Prop}(q:Q)(h:Sp Q P:=by(iterate 16 (apply Sp.tr;exact .on));exact .on):P:=h q
theorem pH {P Q:Prop}(q:Q)(h:Sp Q P:=by(iterate 17 (apply Sp.tr;exact .on));exact .on):P:=h q
theorem BV {P Q:Prop}(q:Q)(h:Sp Q P:=by(iterate 18 (apply Sp.tr;exact .on));exact .on):P:=h q
theorem X1 {P Q:Prop}(q:Q)(h:Sp Q P:=by(iterate 19 (apply Sp.tr;exact .on));exact .on):P:=h q
theorem wR {P Q:Prop}(q:Q)(h:Sp Q P:=by(iterate 20 (apply Sp.tr;exact .on));exact .on):P:=h q
theorem w9 {P Q:Prop}(q:Q)(h:Sp Q P:=by(iterate 21 (apply Sp.tr;exact .on));exact .on):P:=h q
theorem U23 {P Q:Prop}(q:Q)(h:Sp Q P:=by(iterate 22 (apply Sp.tr;exact .on));exact .on):P:=h q
theorem xR {P Q:Prop}(q:Q)(h:Sp Q P:=by(iterate 23 (apply Sp.tr;exact .on));exact .on):P:=h q
theorem B4 {P Q:Prop}(q:Q)(h:Sp Q P:=by(iterate 24 (apply Sp.tr;exact .on));exact .on):P:=h q
theorem U26 {P Q:Prop}(q:Q)(h:Sp Q P:=by(iterate 25 (apply Sp.tr;exact .on));exact .on):P:=h q
theorem U27 {P Q:Prop}(q:Q)(h:Sp Q P:=by(iterate 26 (apply Sp.tr;exact .on));exact .on):P:=h q
theorem U28 {P Q:Prop}(q:Q)(h:Sp Q P:=by(iterate 27 (apply Sp.tr;exact .on));exact .on):P:=h q
theorem U29 {P Q:Prop}(q:Q)(h:Sp Q P:=by(iterate 28 (apply Sp.tr;exact .on));exact .on):P:=h q
theorem U30 {P Q:Prop}(q:Q)(h:Sp Q P:=by(iterate 29 (apply Sp.tr;exact .on));exact .on):P:=h q
theorem U31 {P Q:Prop}(q:Q)(h:Sp Q P:=by(iterate 30 (apply Sp.tr;exact .on));exact .on):P:=h q
theorem U33 {P Q:Prop}(q:Q)(h:Sp Q P:=by(iterate 32 (apply Sp.tr;exact .on));exact .on):P:=h q
theorem U34 {P Q:Prop}(q:Q)(h:Sp Q P:=by(iterate 33 (apply Sp.tr;exact .on));exact .on):P:=h q
theorem U35 {P Q:Prop}(q:Q)(h:Sp Q P:=by(iterate 34 (apply Sp.tr;exact .on));exact .on):P:=h q
theorem U38 {P Q:Prop}(q:Q)(h:Sp Q P:=by(iterate 37 (apply Sp.tr;exact .on));exact .on):P:=h q
theorem U39 {P Q:Prop}(q:Q)(h:Sp Q P:=by(iterate 38 (apply Sp.tr;exact .on));exact .on):P:=h q
theorem U40 {P Q:Prop}(q:Q)(h:Sp Q P:=by(iterate 39 (apply Sp.tr;exact .on));exact .on):P:=h q
theorem U41 {P Q:Prop}(q:Q)(h:Sp Q P:=by(iterate 40 (apply Sp.tr;exact .on));exact .on):P:=h q
theorem U42 {P Q:Prop}(q:Q)(h:Sp Q P:=by(iterate 41 (apply Sp.tr;exact .on));exact .on):P:=h q
theorem U43 {P Q:Prop}(q:Q)(h:Sp Q P:=by(iterate 42 (apply Sp.tr;exact .on));exact .on):P:=h q
theorem U47 {P Q:Prop}(q:Q)(h:Sp Q P:=by(iterate 46 (apply Sp.tr;exact .on));exact .on):P:=h q
theorem U50 {P Q:Prop}(q:Q)(h:Sp Q P:=by(iterate 49 (apply Sp.tr;exact .on));exact .on):P:=h q
theorem U56 {P Q:Prop}(q:Q)(h:Sp Q P:=by(iterate 55 (apply Sp.tr;exact .on));exact .on):P:=h q
theorem U58 {P Q:Prop}(q:Q)(h:Sp Q P:=by(iterate 57 (apply Sp.tr;exact .on));exact .on):P:=h q
end Go.RL
namespace Go.Proofs.YtgkmnalhddmclaaGreatDoor
open Go.RL Go.Proofs.Tryz
set_option maxRecDepth 10000
def rB(a b:Int):Value:=.agg ⟨[.int .i64 a,.int .i64 b]⟩
section
variable(M:Md prog)(H:View)
theorem NN(a b low high many:Int)(h1: -1000000000<=low)(h2:high<=1000000000):
  cA M 110 #[rB a b,.int .i64 low,.int .i64 high,.int .i64 many] H (fun v H'=> H.le H'/\v=.bool (decide (low<=a/\a<=b/\b<=high/\b-a<many))):=by
 refine .en func110 ntmps110 fun St c cs hK=> ?_;by_cases c1:low<=a
 all_goals by_cases c2:a<=b
 all_goals by_cases c3:b<=high
 all_goals by_cases c4:b-a<many
 all_goals
  refine U2 ?_;refine .bo fun b1=> ?_;refine U7 ?_;refine .i ?_ (z:=by first|exact DG oM|exact VF oM);refine U ?_;first|(refine .sk ?_)|(refine .x .fa ?_)
  first|(refine .sk ?_)|((refine .x (.ld 0) ?_))
  first|(refine .sk ?_)|(refine .x .fa ?_)
  first|(refine .sk ?_)|((refine .x (.ld 0) ?_))
  first|(refine .sk ?_)|(refine .x (.it (zz:=(by first|exact DG oM|exact VF oM))) ?_)
  refine U2 ?_;first|(refine .sk ?_)|(refine .x .fa ?_)
  first|(refine .sk ?_)|((refine .x (.ld 0) ?_))
  first|(refine .sk ?_)|(refine .m ?_)
  first|(refine .sk ?_)|(refine .x (.it (zz:=(by first|exact DG oM|exact VF oM))) ?_)
  refine U2 ?_;first|(refine .sk ?_)|(refine .x .fa ?_)
  first|(refine .sk ?_)|((refine .x (.ld 0) ?_))
  first|(refine .sk ?_)|(refine .x .fa ?_)
  first|(refine .sk ?_)|((refine .x (.ld 0) ?_))
  first|(refine .sk ?_)|(refine .x (.it (zz:=GF oM oM)) ?_)
  first|(refine .sk ?_)|(refine .m ?_)
  first|(refine .sk ?_)|(refine .x (.it (zz:=(by first|exact bP oM|exact mK oM))) ?_)
  refine U3 ?_;refine .rt hK func110 results110 [_] ?_;exact fun H' hs=> ⟨hs.base,by simp[TC,c1,c2,c3,c4] <;> omega⟩
theorem G8(a b x:Int):cA M 137 #[rB a b,.int .i64 x] H (fun v H'=> H.le H'/\v=.bool (decide (a<=x/\x<=b))):=by
 refine .en func137 ntmps137 fun St c cs hK=> ?_;by_cases c1:a<=x
 all_goals by_cases c2:x<=b
 all_goals
  refine U2 ?_;refine .bo fun b1=> ?_;refine U7 ?_;refine .i ?_ (z:=by first|exact DG oM|exact VF oM);refine U ?_;first|(refine .sk ?_)|(refine .m ?_)
  first|(refine .sk ?_)|(refine .x .fa ?_)
  first|(refine .sk ?_)|((refine .x (.ld 0) ?_))
  first|(refine .sk ?_)|(refine .x (.it (zz:=(by first|exact DG oM|exact VF oM))) ?_)
  refine U3 ?_;refine .rt hK func137 results137 [_] ?_;exact fun H' hs=> ⟨hs.base,by simp[TC,c1,c2] <;> omega⟩
theorem yD(a b:Int):cA M 98 #[rB a b] H (fun v H'=> H.le H'/\v=rB a b):=by
 refine .en func98 ntmps98 fun St c cs hK=> ?_;refine U2 ?_;refine .bo fun b1=> ?_;refine .al fun b2=> ?_;refine zI ?_;refine .rt hK func98 results98 [_] ?_;exact okB
theorem BZ(x:Int):cA M 47 #[.int .i64 x] H (fun v H'=> H.le H'/\v=.bool (decide (0<=x/\x<=31))):=by
 refine .en func47 ntmps47 fun St c cs hK=> ?_;by_cases c1:0<=x
 all_goals by_cases c2:x<=31
 all_goals
  refine U7 ?_;refine .i ?_ (z:=by first|exact QM oM|exact PM oM);refine U ?_;first|(refine .sk ?_)|(refine .m ?_)
  first|(refine .sk ?_)|(refine .x (.it (zz:=(by first|exact DG oM|exact VF oM))) ?_)
  refine U3 ?_;refine .rt hK func47 results47 [_] ?_;exact fun H' hs=> ⟨hs.base,by simp[TC,c1,c2] <;> omega⟩
def XB(pace after:Int):Nat->Int->Int
 | 0,n=> n
 | f+1,n=> if(2*n+1)*pace<after then XB pace after f (n+1) else n
def iB(pace after:Int):Int:=XB pace after 7 0
theorem tS(pace after:Int)(h1:0<=pace)(h2:pace<=1000000):cA M 171 #[.int .i64 pace,.int .i64 after] H (fun v H'=> H.le H'/\v=.int .i64 (iB pace after)):=by
 refine .en func171 ntmps171 fun St c cs hK=> ?_;refine zI ?_;refine Tc.r8 (R':= [(5,.int .i64 0),(0,.int .i64 pace),(1,.int .i64 after)]) ⟨rfl,rfl,rfl,trivial⟩ ?_;refine Tc.vA (σ:= { s:Int×Nat//0<=s.1/\s.1+s.2=7/\XB pace after s.2 s.1=iB pace after })
  (fun s=> ([(5,.int .i64 s.1.1),(0,.int .i64 pace),(1,.int .i64 after)],[])) (fun s=> s.1.2) ?_ ⟨(0,7),by simp,by simp,rfl⟩
 rintro⟨⟨s,f⟩,g1,g2,g3⟩ ih;simp only at g1 g2 g3;have m1:0<=(2*s+1)*pace:=Int.mul_nonneg oM h1;have m2:(2*s+1)*pace<=15*1000000:=Int.mul_le_mul oM h2 h1 oM;show Tc M St _ _ _ _ [(5,.int .i64 s),(0,.int .i64 pace),(1,.int .i64 after)] [] _ _
 match f,g2,g3,ih with
 | 0,g2,g3,_=>
  refine w9 ?_;refine .rt hK func171 results171 [_] ?_;exact fun H' hs=> ⟨hs.base,by simp only[TC];rw[<-g3];rfl⟩
 | f + 1,g2,g3,ih=>
  simp only[XB] at g3;by_cases c:(2*s+1)*pace<after
  ·rw[if_pos c] at g3;refine U7 ?_;refine .i ?_ (z:=JC oM oM);refine U2 ?_;refine .i ?_ (z:=JC oM oM);refine aJ ?_;exact Tc.db (ih ⟨(s+1,f),by simp only;omega,by simp only;omega,g3⟩ (by simp))
  ·rw[if_neg c] at g3;refine U7 ?_;refine .i ?_ (z:=JC oM oM);refine U2 ?_;refine .i ?_ (z:=JC oM oM);refine eF ?_;refine .rt hK func171 results171 [_] ?_;exact fun H' hs=> ⟨hs.base,by simp only[TC];rw[<-g3]⟩
end
def ME(code place:Nat):Nat:=if place=0 then 0 else if place=6 then 1 else code/2 ^ (place-1)%2
def vB(v first:Nat):Nat:=v ^^^ (128-2 ^ first)
def OD(v:Nat):Option Nat:=if v%2=0/\v/64%2=1 then some (v/2%32) else none
theorem XP:∀c:Nat,c<32->∀p:Nat,p<7->p≠0->p≠6->XD .and .i64 (Int.fdiv (c:Int) (2 ^ (min ((p:Int)-1).toNat 64))) 1=(ME c p:Nat):=by decide +kernel
theorem kT:∀v:Nat,v<128->∀f:Nat,f<8->XD .xor .u8 (v:Int) (XD .andNot .u8 127 (IntKind.u8.wrap (IntKind.u8.wrap (1*2 ^ (min (f:Int).toNat 8))-1)))=(vB v f:Nat):=by decide +kernel
theorem BO:∀v:Nat,v<128->XD .and .u8 (v:Int) 1=((v%2:Nat):Int):=by decide +kernel
theorem KT:∀v:Nat,v<128->XD .and .u8 (v:Int) 31=((v%32:Nat):Int):=by decide +kernel
theorem ZS:∀v:Nat,v<128->∀k:Nat,k<7->Int.fdiv (v:Int) (2 ^ (min (k:Int).toNat 8))=((v/2 ^ k:Nat):Int):=by decide +kernel
section
variable(M:Md prog)(H:View)
theorem JO(code place:Nat)(h1:code<32)(h2:place<7):cA M 87 #[.int .i64 code,.int .i64 place] H (fun v H'=> H.le H'/\v=.int .i64 (ME code place:Nat)):=by
 refine .en func87 ntmps87 fun St c cs hK=> ?_;by_cases c1:place=0
 ·subst c1;refine X1 ?_;refine .rt hK func87 results87 [_] ?_;exact okB
 ·by_cases c2:place=6
  ·subst c2;refine U26 ?_;refine .rt hK func87 results87 [_] ?_;exact okB
  ·have hb:=XP code h1 place h2 c1 c2;refine U29 ?_;refine .x .sf ?_;refine U3 ?_;refine .rt hK func87 results87 [_] ?_;exact fun H' hs=> ⟨hs.base,by simp only[TC];rw[<-hb];rfl⟩
theorem lT(v first:Nat)(h1:v<128)(h2:first<8):cA M 123 #[.int .u8 v,.int .i64 first] H (fun r H'=> H.le H'/\r=.int .u8 (vB v first:Nat)):=by
 refine .en func123 ntmps123 fun St c cs hK=> ?_;have hb:=kT v h1 first h2;refine U8 ?_;refine .x .sf ?_;refine U5 ?_;refine .rt hK func123 results123 [_] ?_;exact fun H' hs=> ⟨hs.base,by simp only[TC];rw[<-hb];rfl⟩
theorem O0(v:Nat)(h1:v<128):cA M 55 #[.int .u8 v] H (fun r H'=> H.le H'/\r=(match OD v with|some n=> .tuple ⟨[.int .i64 (n:Nat),.bool true]⟩|none=> .tuple ⟨[.int .i64 0,.bool false]⟩)):=by
 refine .en func55 ntmps55 fun St c cs hK=> ?_;have e1:gA .and .u8 (v:Int) 1=some (.int .u8 ((v%2:Nat):Int)):=by simp only[gA,BO v h1]
 have e2:NC .shr .u8 (v:Int) 6=some (.int .u8 ((v/64:Nat):Int)):=by simp only[NC];exact congrArg (fun z=> some (Value.int .u8 z)) (ZS v h1 6 oM)
 have e3:gA .and .u8 ((v/64:Nat):Int) 1=some (.int .u8 ((v/64%2:Nat):Int)):=by simp only[gA,BO (v/64) oM]
 have e4:NC .shr .u8 (v:Int) 1=some (.int .u8 ((v/2:Nat):Int)):=by simp only[NC];exact congrArg (fun z=> some (Value.int .u8 z)) (ZS v h1 1 oM)
 have e5:gA .and .u8 ((v/2:Nat):Int) 31=some (.int .u8 ((v/2%32:Nat):Int)):=by simp only[gA,KT (v/2) oM]
 have e6:IntKind.i64.wrap ((v/2%32:Nat):Int)=((v/2%32:Nat):Int):=wrap64 oM oM;by_cases c1:v%2=0
 ·by_cases c2:v/64%2=1
  ·refine aJ ?_;refine .x .sf ?_;refine U9 ?_;refine .x .sf ?_;refine U5 ?_;refine .rt hK func55 results55 [_,_] ?_;exact fun H' hs=> ⟨hs.base,by simp[TC,OD,c1,c2]⟩
  ·refine aJ ?_;refine .x .sf ?_;refine zI ?_;refine .rt hK func55 results55 [_,_] ?_;exact fun H' hs=> ⟨hs.base,by simp[TC,OD,c2]⟩
 ·refine xR ?_;refine .rt hK func55 results55 [_,_] ?_;exact fun H' hs=> ⟨hs.base,by simp[TC,OD,c1]⟩
end
def XL(code place:Nat):Nat:=if place=0 then 1 else ME code (place-1)
def bA(code:Nat):Nat->List Nat
 | 0=> []
 | p+1=> if ME code p=XL code p then bA code p else bA code p++[p]
def wB(ps:List Nat):List Value:=(ps.zipIdx.map fun x=> [Value.int .i64 (x.1:Nat),Value.int .i64 (x.2:Nat)]).flatten
theorem IM(ps:List Nat)(p:Nat):wB (ps++[p])=wB ps++[.int .i64 (p:Nat),.int .i64 (ps.length:Nat)]:=by
 unfold wB;rw[List.zipIdx_append];simp
theorem JQ(code p:Nat):(bA code p).length<=p:=by
 induction p with
 | zero=> simp[bA]
 | succ p ih=>
  unfold bA;split
  ·omega
  ·simp;omega
section
variable(M:Md prog)(H:View)
theorem vJ(code:Nat)(h1:code<32):cA M 48 #[.int .i64 code] H (fun v H'=> H.le H'/\∃g:Gl 108 2,v=.agg ⟨[.int .i64 code,g.val]⟩/\g.n=(bA code 7).length/\g.l=wB (bA code 7)/\∀x∈g.bl,H' x.1=some x.2/\H x.1=none):=by
 refine .en func48 ntmps48 fun St c cs hK=> ?_;refine U2 ?_;refine .al fun b2=> ?_;refine U5 ?_;refine .al fun b3=> ?_;refine JL ?_;refine Tc.db (Tc.vA (σ:= { s:Nat×Gl 108 2//s.1<=7/\s.2.n=(bA code s.1).length/\s.2.l=wB (bA code s.1) })
  (fun s=> ([(9,.int .i64 (s.1.1:Nat)),(4,.int .i64 (XL code s.1.1:Nat)),(0,.int .i64 code),(2,.pointer (some ⟨b2,0,none⟩)),(3,.pointer (some ⟨b3,0,none⟩))],
   (b3,true,.cells ⟨[.int .i64 code,s.1.2.val]⟩ 105 (0,0))::(b2,true,.cells ⟨[.int .i64 0,.slice none 0 0]⟩ 105 (0,0))::s.1.2.bl)) (fun s=> 7-s.1.1) ?_ ⟨(0,Gl.nil 108 2),by simp,rfl,rfl⟩)
 rintro⟨⟨p,g⟩,g1,g2,g3⟩ ih;simp only at g1 g2 g3;have hlen:=JQ code p;show Tc M St _ _ _ _ [(9,.int .i64 (p:Nat)),(4,.int .i64 (XL code p:Nat)),(0,.int .i64 code),(2,.pointer (some ⟨b2,0,none⟩)),(3,.pointer (some ⟨b3,0,none⟩))]
   ((b3,true,.cells ⟨[.int .i64 code,g.val]⟩ 105 (0,0))::(b2,true,.cells ⟨[.int .i64 0,.slice none 0 0]⟩ 105 (0,0))::g.bl) _ _
 by_cases c7:p=7
 ·subst c7;refine JL ?_;refine .rt hK func48 results48 [_] ?_;refine fun H' hs=> ⟨hs.base,g,rfl,g2,g3,fun x hx=> ⟨hs.at_ x ?_,hs.out x ?_⟩⟩
  ·exact List.mem_cons_of_mem _ (List.mem_cons_of_mem _ hx)
  ·exact List.mem_cons_of_mem _ (List.mem_cons_of_mem _ hx)
 ·have c8:p<7:=by omega
  refine pH ?_;refine .cl (fun H hs=> JO M H code p h1 c8) ?_;refine U4 ?_;by_cases he:ME code p=XL code p
  ·refine bJ ?_;exact Tc.db (ih ⟨(p+1,g),by simp only;omega,by simp only[bA,he,if_true];exact g2,by simp only[bA,he,if_true];exact g3⟩ (by simp only;omega))
  ·refine zH ?_;refine .e (.bs (zz:=fun bs=> ?_));refine .e (Or.append (E:=en) 3 rfl rfl rfl rfl rfl rfl rfl rfl rfl rfl rfl rfl rfl rfl rfl (fun H hs=> NA.of (hs.get (i:=0) rfl) (Nat.le_of_ble_eq_true rfl)) rfl oM rfl dE (fun g' hn hl=> ?_));refine JL ?_;exact Tc.db (ih ⟨(p+1,g'),by simp only;omega,by simp only[bA,he,if_false];rw[hn,g2];simp,by simp only[bA,he,if_false];rw[hl,g3,IM];rw[g2];rfl⟩ (by simp only;omega))
end
def ZF(code:Nat):Nat->Nat
 | 0=> 0
 | p+1=> ZF code p+ME code p*2 ^ p
def QB(code:Nat):Nat:=ZF code 7
theorem cV:∀c:Nat,c<32->∀p:Nat,p<7->XD .or .u8 (ZF c p:Nat) (IntKind.u8.wrap (IntKind.u8.wrap (ME c p:Nat)*2 ^ (min (p:Int).toNat 8)))=(ZF c (p+1):Nat):=by decide +kernel
section
variable(M:Md prog)(H:View)
theorem MQ(code:Nat)(sv:Value)(h1:code<32):cA M 54 #[.agg ⟨[.int .i64 code,sv]⟩] H (fun v H'=> H.le H'/\v=.int .u8 (QB code:Nat)):=by
 refine .en func54 ntmps54 fun St c cs hK=> ?_;refine U2 ?_;refine .bo fun b1=> ?_;refine JL ?_;refine Tc.db (Tc.vA (σ:= { p:Nat//p<=7 })
  (fun s=> ([(5,.int .i64 (s.1:Nat)),(3,.int .u8 (ZF code s.1:Nat)),(1,.pointer (some ⟨b1,0,none⟩))],[(b1,true,.cells ⟨[.int .i64 code,sv]⟩ 105 (0,0))])) (fun s=> 7-s.1) ?_ ⟨0,by simp⟩)
 rintro⟨p,g1⟩ ih;show Tc M St _ _ _ _ [(5,.int .i64 (p:Nat)),(3,.int .u8 (ZF code p:Nat)),(1,.pointer (some ⟨b1,0,none⟩))] [(b1,true,.cells ⟨[.int .i64 code,sv]⟩ 105 (0,0))] _ _;by_cases c7:p=7
 ·subst c7;refine JL ?_;refine .rt hK func54 results54 [_] ?_;exact okB
 ·have c8:p<7:=by omega
  have e1:gA .or .u8 (ZF code p:Nat) (IntKind.u8.wrap (IntKind.u8.wrap (ME code p:Nat)*2 ^ (min (p:Int).toNat IntKind.u8.bits)))=some (.int .u8 (ZF code (p+1):Nat)):=congrArg (fun z=> some (Value.int .u8 z)) (cV code h1 p c8);refine BV ?_;refine .cl (fun H hs=> JO M H code p h1 c8) ?_;refine U2 ?_;refine .x .sf ?_;refine U8 ?_;exact Tc.db (ih ⟨p+1,oM⟩ (by simp only;omega))
end
def fB(p:Nat->Bool)(k:Nat):List Value:=((List.range k).filter p).map fun i=> .int .i64 (i:Nat)
theorem pL(p:Nat->Bool)(k:Nat):fB p (k+1)=if p k then fB p k++[.int .i64 (k:Nat)] else fB p k:=by
 unfold fB;rw[List.range_succ,List.filter_append];cases h:p k <;> simp[h]
theorem EU(p:Nat->Bool)(k:Nat):(fB p k).length<=k:=by
 unfold fB;rw[List.length_map];exact Nat.le_trans (List.length_filter_le _ _) (by simp)
def WN(M:Md prog)(H:View)(fv:Value)(many:Nat)(p:Nat->Bool):Prop:=
 ∀i:Nat,i<many->∀H',H.le H'->UC M fv [.int .i64 (i:Nat)] H' fun v H''=> H'.le H''/\v=.bool (p i)
def aC(p:Nat->Bool):Nat->Option Nat
 | 0=> none
 | k+1=> (aC p k).or (if p k then some k else none)
theorem kO {p:Nat->Bool}{j x:Nat}(h:aC p j=some x):∀m,j<=m->aC p m=some x:=by
 intro m hm;induction m with
 | zero=>
  have:j=0:=by omega
  subst this;exact h
 | succ m ih=>
  by_cases e:j=m+1
  ·subst e;exact h
  ·rw[aC,ih oM];rfl
section
variable(M:Md prog)(H:View)
theorem aAl(many:Nat)(fv:Value)(p:Nat->Bool)(hm:many<=100000)(hp:WN M H fv many p):cA M 50 #[.int .i64 many,fv] H (fun v H'=> H.le H'/\∃g:Gl 3 1,v=g.val/\g.l=fB p many/\∀x∈g.bl,H' x.1=some x.2/\H x.1=none):=by
 refine .en func50 ntmps50 fun St c cs hK=> ?_;refine WL ?_;refine Tc.db (Tc.vA (σ:= { s:Nat×Gl 3 1//s.1<=many/\s.2.l=fB p s.1 })
  (fun s=> ([(8,.int .i64 (s.1.1:Nat)),(7,.int .i64 many),(1,fv),(5,s.1.2.val)],s.1.2.bl)) (fun s=> many-s.1.1) ?_ ⟨(0,Gl.nil 3 1),by simp,rfl⟩)
 rintro⟨⟨k,g⟩,g1,g2⟩ ih;simp only at g1 g2;have hlen:g.n<=k:=by
  have h1:=EU p k;rw[<-g2,g.hl] at h1;omega
 show Tc M St _ _ _ _ [(8,.int .i64 (k:Nat)),(7,.int .i64 many),(1,fv),(5,g.val)] g.bl _ _;by_cases c1:k=many
 ·subst c1;refine JL ?_;refine .rt hK func50 results50 [_] ?_;exact fun H' hs=> ⟨hs.base,g,rfl,g2,fun x hx=> ⟨hs.at_ x hx,hs.out x hx⟩⟩
 ·have c2:k<many:=by omega
  refine pH ?_;refine .c rfl rfl rfl rfl (fun H hs=> hp k c2 H hs.base) ?_;refine U ?_;cases L2:p k with
  | false=>
   refine U7 ?_;exact Tc.db (ih ⟨(k+1,g),by simp only;omega,by simp only[pL,L2];exact g2⟩ (by simp only;omega))
  | true=>
   refine U4 ?_;refine .e (.bs (zz:=fun bs=> ?_));refine .e (Or.append (E:=en) 1 rfl rfl rfl rfl rfl rfl rfl rfl rfl rfl rfl rfl rfl rfl rfl (fun H hs=> NA.of (hs.get (i:=0) rfl) (Nat.le_of_ble_eq_true rfl)) rfl oM rfl dE (fun g' hn hl=> ?_));refine U7 ?_;exact Tc.db (ih ⟨(k+1,g'),by simp only;omega,by simp only[pL,L2,if_true];rw[hl,g2];rfl⟩ (by simp only;omega))
theorem aM(many:Nat)(fv:Value)(p:Nat->Bool)(hm:many<=100000)(hp:WN M H fv many p):cA M 58 #[.int .i64 many,fv] H (fun v H'=> H.le H'/\v=.tuple ⟨[.int .i64 ((aC p many).getD 0:Nat),.bool (aC p many).isSome]⟩):=by
 refine .en func58 ntmps58 fun St c cs hK=> ?_;refine JL ?_;refine Tc.db (Tc.vA (σ:= { k:Nat//k<=many/\aC p k=none })
  (fun s=> ([(8,.int .i64 (s.1:Nat)),(7,.int .i64 many),(1,fv)],[])) (fun s=> many-s.1) ?_ ⟨0,by simp,rfl⟩)
 rintro⟨k,g1,g2⟩ ih;show Tc M St _ _ _ _ [(8,.int .i64 (k:Nat)),(7,.int .i64 many),(1,fv)] [] _ _;by_cases c1:k=many
 ·subst c1;refine JL ?_;refine .rt hK func58 results58 [_,_] ?_;exact fun H' hs=> ⟨hs.base,by simp[TC,g2]⟩
 ·have c2:k<many:=by omega
  refine pH ?_;refine .c rfl rfl rfl rfl (fun H hs=> hp k c2 H hs.base) ?_;refine U ?_;cases L2:p k with
  | false=>
   refine U7 ?_;exact Tc.db (ih ⟨k+1,oM,by simp[aC,g2,L2]⟩ (by simp only;omega))
  | true=>
   refine U7 ?_;refine .rt hK func58 results58 [_,_] ?_;have h1:aC p (k+1)=some k:=by simp[aC,g2,L2]
   have h2:=kO h1 many oM;exact fun H' hs=> ⟨hs.base,by simp[TC,h2]⟩
theorem aBR(a b:Int)(fv:Value)(J:Int->View->Prop)(D:View->Prop)(ha: -1000000000<=a)(hb:b<=1000000000)(h0:J a H)
  (hy:∀i H',a<=i->i<=b->J i H'->UC M fv [.int .i64 i] H' fun v H''=> (v=.bool true/\J (i+1) H'')\/(v=.bool false/\D H'')):
  cA M 99 #[rB a b,fv] H (fun _ H'=> ∃H₁,H₁.le H'/\((∃i,b<i/\a<=i/\(i=a\/i=b+1)/\J i H₁)\/D H₁)):=by
 refine .en func99 ntmps99 fun St c cs hK=> ?_;refine U2 ?_;refine .bo fun b1=> ?_;refine U8 ?_;refine Tc.db (Tc.aP (σ:= { s:Int×View//a<=s.1/\(s.1=a\/s.1<=b+1)/\J s.1 s.2 })
  (fun s=> (s.1.2,[(4,.int .i64 s.1.1),(1,fv),(2,.pointer (some ⟨b1,0,none⟩))],[(b1,true,.cells ⟨[.int .i64 a,.int .i64 b]⟩ 162 (0,0))])) (fun s=> (b+1-s.1.1).toNat) ?_ ⟨(a,H),by simp,by simp,h0⟩)
 rintro⟨⟨i,H₁⟩,g1,g2,g3⟩ ih;simp only at g1 g2 g3;show Tc M St _ _ H₁ _ [(4,.int .i64 i),(1,fv),(2,.pointer (some ⟨b1,0,none⟩))] [(b1,true,.cells ⟨[.int .i64 a,.int .i64 b]⟩ 162 (0,0))] _ _;by_cases c1:i<=b
 ·refine bJ ?_;refine To.sF rfl rfl rfl rfl rfl rfl dE (hy i H₁ g1 c1 g3) (fun v H₂ hv=> ?_);rcases hv with ⟨rfl,hv⟩|⟨rfl,hv⟩
  ·refine zI ?_;exact Tc.db (ih ⟨(i+1,H₂),by simp only;omega,by simp only;omega,hv⟩ (by simp only;omega))
  ·refine U3 ?_;refine .rt hK func99 results99 [] ?_;exact fun H' hs=> ⟨H₂,hs.base,.inr hv⟩
 ·refine zI ?_;refine .ov hK func99 results99 [] ?_;exact fun H' hs=> ⟨H₁,hs.base,.inl ⟨i,oM,g1,oM,g3⟩⟩
end
def mA(l:List Int):List Value:=l.map fun x=> .int .i64 x
def XK(l:List Int):Value:=.agg ⟨mA l⟩
def SA(l:List Int)(k:Nat):List Int:=l.zipIdx.map fun x=> if x.2<k then x.1-l.headD 0 else x.1
theorem sA(l:List Int):(mA l).length=l.length:=by simp[mA]
theorem eD(l:List Int)(k:Nat):(SA l k).length=l.length:=by simp[SA]
theorem MF {l:List Int}{k i:Nat}{x:Int}(h:l[i]? =some x):(SA l k)[i]? =some (if i<k then x-l.headD 0 else x):=by
 simp[SA,h]
theorem EI {l:List Int}{i:Nat}{x:Int}(h:l[i]? =some x):(mA l)[i]? =some (.int .i64 x):=by simp[mA,h]
theorem nM(l:List Value)(i:Nat)(v:Value)(h:i<l.length):IE l i [v]=l.set i v:=by
 unfold IE;rw[List.set_eq_take_append_cons_drop,if_pos h];simp
theorem six {l:List Int}(h:l.length=6):∃a b c d e f,l= [a,b,c,d,e,f]:=by
 match l,h with
 | [a,b,c,d,e,f],_=> exact⟨a,b,c,d,e,f,rfl⟩
theorem LP {l:List Int}{k:Nat}{x:Int}(h:l[k]? =some x):IE (mA (SA l k)) k [.int .i64 (x-l.headD 0)]=mA (SA l (k+1)):=by
 have hk:k<l.length:=(List.getElem?_eq_some_iff.1 h).1;rw[nM _ _ _ (by rw[sA,eD];exact hk)];apply List.ext_getElem?
 intro i;by_cases e:k=i
 ·subst e;rw[List.getElem?_set_self (by rw[sA,eD];exact hk),EI (MF h),if_pos oM]
 ·rw[List.getElem?_set_ne e];cases hx:l[i]? with
  | none=>
   have h1:l.length<=i:=List.getElem?_eq_none_iff.1 hx;rw[List.getElem?_eq_none (by rw[sA,eD];exact h1),List.getElem?_eq_none (by rw[sA,eD];exact h1)]
  | some y=>
   rw[EI (MF hx),EI (MF hx)];by_cases e2:i<k
   ·rw[if_pos e2,if_pos oM]
   ·rw[if_neg e2,if_neg oM]
section
variable(M:Md prog)(H:View)
theorem T4(a:Option Addr)(m c:Nat)(l:List Value)(hm:m<=100000)(hs:NA H 1 (.slice a m c) m l)(h1:l.all single=true):cA M 94 #[.slice a m c] H (fun v H'=> H.le H'/\∃g:Gl 3 1,v=g.val/\g.l=l/\∀x∈g.bl,H' x.1=some x.2/\H x.1=none):=by
 refine .en func94 ntmps94 fun St c cs hK=> ?_;cases a with
 | none=>
  refine U8 ?_;refine .x (oA.w8 (E:=en) rfl rfl rfl rfl rfl) ?_;refine U6 ?_;refine .rt hK func94 results94 [_] ?_;refine fun H' hs'=> ⟨hs'.base,Gl.nil 3 1,rfl,?_,by simp[Gl.nil,Gl.bl]⟩
  obtain⟨_,h2,h3|⟨b,off,_,_,_,_,_,h3,_⟩⟩:=hs
  ·obtain⟨_,_,_,rfl⟩:=h3;rfl
  ·cases h3
 | some a=>
  refine U8 ?_;refine .x (oA.w8 (E:=en) rfl rfl rfl rfl rfl) ?_;refine U5 ?_;refine .e (.bs (zz:=fun bs=> ?_));refine U ?_;refine .e (Or.append (E:=en) (g:=Gl.emp 3 1 bs) 0 rfl rfl rfl rfl rfl rfl rfl rfl rfl rfl rfl rfl rfl rfl rfl (fun H' hs'=> hs.mono hs'.base) h1 (by show 0+m<=_;omega) rfl dE (fun g' hn hl=> ?_));refine U2 ?_;refine .rt hK func94 results94 [_] ?_;exact fun H' hs'=> ⟨hs'.base,g',rfl,by rw[hl];rfl,fun x hx=> ⟨hs'.at_ x hx,hs'.out x hx⟩⟩
theorem MP(l:List Int)(many:Nat)(h6:l.length=6)(hm:many<=6)(hb:∀x∈l, -1000000000<=x/\x<=1000000000):cA M 97 #[XK l,.int .i64 many] H (fun v H'=> H.le H'/\v=XK (SA l many)):=by
 refine .en func97 ntmps97 fun St c cs hK=> ?_;obtain⟨x0,l',rfl⟩:∃x l',l=x::l':=by
  cases l with
  | nil=> cases h6
  | cons x l'=> exact⟨x,l',rfl⟩
 have z0:SA (x0::l') 0=x0::l':=by
  unfold SA;simp
 have hx0:=hb x0 (by simp);refine U2 ?_;refine .bo fun b2=> ?_;refine .al fun b4=> ?_;refine zH ?_;refine Tc.db (Tc.vA (σ:= { s:Nat×List Int//s.1<=many/\s.2=SA (x0::l') s.1 })
  (fun s=> ([(10,.int .i64 (s.1.1:Nat)),(9,.int .i64 many),(5,.int .i64 x0),(2,.pointer (some ⟨b2,0,none⟩)),(4,.pointer (some ⟨b4,0,none⟩))],
   [(b4,true,.cells ⟨[.int .i64 0,.int .i64 0,.int .i64 0,.int .i64 0,.int .i64 0,.int .i64 0]⟩ 127 (0,0)),(b2,true,.cells ⟨mA s.1.2⟩ 127 (0,0))])) (fun s=> many-s.1.1) ?_ ⟨(0,x0::l'),by simp,z0.symm⟩)
 rintro⟨⟨k,cur⟩,g1,g2⟩ ih;simp only at g1 g2;have PB:(mA cur).length=6:=by rw[sA,g2,eD];exact h6
 show Tc M St _ _ _ _ [(10,.int .i64 (k:Nat)),(9,.int .i64 many),(5,.int .i64 x0),(2,.pointer (some ⟨b2,0,none⟩)),(4,.pointer (some ⟨b4,0,none⟩))]
   [(b4,true,.cells ⟨[.int .i64 0,.int .i64 0,.int .i64 0,.int .i64 0,.int .i64 0,.int .i64 0]⟩ 127 (0,0)),(b2,true,.cells ⟨mA cur⟩ 127 (0,0))] _ _
 by_cases c1:k=many
 ·subst c1;obtain⟨y0,y1,y2,y3,y4,y5,hy⟩:=six (show cur.length=6 by rw[<-sA];exact PB);subst hy;refine JL ?_;refine .rt hK func97 results97 [_] ?_;exact fun H' hs=> ⟨hs.base,by rw[<-g2];rfl⟩
 ·have c2:k<many:=by omega
  obtain⟨x,hx⟩:∃x,(x0::l')[k]? =some x:=⟨_,List.getElem?_eq_getElem (by rw[h6];omega)⟩
  have hxb:=hb x (List.mem_of_getElem? hx);have hcx:cur[k]? =some x:=by rw[g2,MF hx,if_neg oM]
  have f1:SB false 1 (mA cur) (0+(k:Int).toNat*1)=some (.int .i64 x):=by
   show(mA cur)[0+(k:Int).toNat*1]? =_;rw[show 0+(k:Int).toNat*1=k by simp];exact EI hcx
  have f2:IE (mA cur) (0+(k:Int).toNat*1) [.int .i64 (x-x0)]=mA (SA (x0::l') (k+1)):=by
   rw[show 0+(k:Int).toNat*1=k by simp,g2];exact LP hx
  have f3:Nat.ble (0+(k:Int).toNat*1+1) (mA cur).length=true:=Nat.ble_eq_true_of_le (by rw[PB];simp;omega);refine U28 ?_;exact Tc.db (ih ⟨(k+1,SA (x0::l') (k+1)),by simp only;omega,rfl⟩ (by simp only;omega))
end
def kE(place number send lean:Int):Int:=2*place*send+if number%2=0 then -lean else lean
def seenAt(ps:List Nat)(mv:List Int)(send lean:Int)(i:Nat):Int:=kE ((ps[i]?.getD 0:Nat):Int) i send lean+mv[i]?.getD 0
def GD(ps:List Nat)(mv:List Int)(send lean:Int)(k:Nat):List Int:=(List.range 6).map fun i=> if i<k then seenAt ps mv send lean i else 0
theorem lD(ps:List Nat)(mv:List Int)(send lean:Int)(k:Nat):(GD ps mv send lean k).length=6:=by simp[GD]
theorem YS {ps:List Nat}{mv:List Int}{send lean:Int}{k:Nat}(hk:k<6):IE (mA (GD ps mv send lean k)) k [.int .i64 (seenAt ps mv send lean k)]=mA (GD ps mv send lean (k+1)):=by
 rw[nM _ _ _ (by rw[sA,lD];exact hk)];apply List.ext_getElem?
 intro i;by_cases e:k=i
 ·subst e;rw[List.getElem?_set_self (by rw[sA,lD];exact hk)];simp[mA,GD,hk]
 ·rw[List.getElem?_set_ne e];by_cases hi:i<6
  ·simp only[mA,GD,List.getElem?_map,List.getElem?_range hi,Option.map_some];by_cases e2:i<k
   ·rw[if_pos e2,if_pos oM]
   ·rw[if_neg e2,if_neg oM]
  ·rw[List.getElem?_eq_none (by rw[sA,lD];omega),List.getElem?_eq_none (by rw[sA,lD];omega)]
section
variable(M:Md prog)(H:View)
theorem NI(place number send lean:Int)(h1:0<=place)(h2:place<=6)(h3:0<=number)(h4:0<=send)(h5:send<=1000)(h6: -1000<=lean)(h7:lean<=1000):
  cA M 136 #[.agg ⟨[.int .i64 place,.int .i64 number]⟩,.int .i64 send,.int .i64 lean] H (fun v H'=> H.le H'/\v=.int .i64 (kE place number send lean)):=by
 refine .en func136 ntmps136 fun St c cs hK=> ?_;have h8:0<=2*place*send:=Int.mul_nonneg oM h4;have h9:2*place*send<=12*1000:=Int.mul_le_mul oM h5 h4 oM;refine U2 ?_;refine .bo fun b1=> ?_;refine U2 ?_;by_cases h:number%2=0
 ·refine U5 ?_;refine .i ?_ (z:=rem_in oM oM);refine U5 ?_;refine .x .ng ?_;refine U6 ?_;refine .i ?_ (z:=JC oM oM);refine U ?_;refine .i ?_ (z:=JC oM oM);refine U4 ?_;refine .rt hK func136 results136 [_] ?_;exact fun H' hs=> ⟨hs.base,by simp[TC,kE,h]<;> omega⟩
 ·refine U5 ?_;refine .i ?_ (z:=rem_in oM oM);refine U8 ?_;refine .i ?_ (z:=JC oM oM);refine U ?_;refine .i ?_ (z:=JC oM oM);refine U4 ?_;refine .rt hK func136 results136 [_] ?_;exact fun H' hs=> ⟨hs.base,by simp[TC,kE,h]<;> omega⟩
theorem FF {place number send lean:Int}(h1:0<=place)(h2:place<=6)(h4:0<=send)(h5:send<=1000)(h6: -1000<=lean)(h7:lean<=1000): -1000<=kE place number send lean/\kE place number send lean<=13000:=by
 have h8:0<=2*place*send:=Int.mul_nonneg oM h4;have h9:2*place*send<=12*1000:=Int.mul_le_mul oM h5 h4 oM;unfold kE;split <;> omega
theorem Q0(code send read lean:Int)(ps:List Nat)(mv:List Int)(eb eo ec vb vo vc:Nat)(f1 f2:Bool)(es vs:List Value)(et vt:TypeId)(ez vz:Nat×Nat)
  (hE:H eb=some (f1,.cells ⟨es⟩ et ez)) (WR:∀i:Nat,i<ps.length->SB true 2 es (eo+i*2)=some (.agg ⟨[.int .i64 ((ps[i]?.getD 0:Nat):Int),.int .i64 (i:Nat)]⟩))
  (hV:H vb=some (f2,.cells ⟨vs⟩ vt vz)) (hV2:∀i:Nat,i<ps.length->SB false 1 vs (vo+i*1)=some (.int .i64 (mv[i]?.getD 0)))
  (hp:ps.length<=6) (VM:∀i:Nat,i<ps.length->ps[i]?.getD 0<=6) (J2:∀i:Nat, -1000<=mv[i]?.getD 0/\mv[i]?.getD 0<=1000) (h4:0<=send) (h5:send<=1000) (h6: -1000<=lean) (h7:lean<=1000) (ml:Nat) (hml:ps.length<=ml):
  cA M 138 #[.agg ⟨[.int .i64 code,.slice (some ⟨eb,eo,none⟩) ps.length ec]⟩,.agg ⟨[.int .i64 send,.int .i64 read,.int .i64 lean,.slice (some ⟨vb,vo,none⟩) ml vc]⟩] H (fun v H'=> H.le H'/\v=XK (GD ps mv send lean ps.length)):=by
 refine .en func138 ntmps138 fun St c cs hK=> ?_;refine U2 ?_;refine .bo fun b2=> ?_;refine .bo fun b3=> ?_;refine .al fun b4=> ?_;refine U3 ?_;refine .al fun b5=> ?_;refine zI ?_;refine Tc.db (Tc.vA (σ:= { s:Nat×List Int//s.1<=ps.length/\s.2=GD ps mv send lean s.1 })
  (fun s=> ([(11,.int .i64 (s.1.1:Nat)),(10,.int .i64 ps.length),(9,.slice (some ⟨eb,eo,none⟩) ps.length ec),(2,.pointer (some ⟨b2,0,none⟩)),(3,.pointer (some ⟨b3,0,none⟩)),(4,.pointer (some ⟨b4,0,none⟩)),(5,.pointer (some ⟨b5,0,none⟩))],
   [(b5,true,.cells ⟨mA s.1.2⟩ 127 (0,0)),(b4,true,.cells ⟨[.int .i64 0,.int .i64 0,.int .i64 0,.int .i64 0,.int .i64 0,.int .i64 0]⟩ 127 (0,0)),
    (b3,true,.cells ⟨[.int .i64 send,.int .i64 read,.int .i64 lean,.slice (some ⟨vb,vo,none⟩) ml vc]⟩ 53 (0,0)),(b2,true,.cells ⟨[.int .i64 code,.slice (some ⟨eb,eo,none⟩) ps.length ec]⟩ 105 (0,0))])) (fun s=> ps.length-s.1.1) ?_ ⟨(0,[0,0,0,0,0,0]),by simp,rfl⟩)
 rintro⟨⟨k,cur⟩,g1,g2⟩ ih;simp only at g1 g2;have PB:(mA cur).length=6:=by rw[sA,g2,lD]
 show Tc M St _ _ _ _ [(11,.int .i64 (k:Nat)),(10,.int .i64 ps.length),(9,.slice (some ⟨eb,eo,none⟩) ps.length ec),(2,.pointer (some ⟨b2,0,none⟩)),(3,.pointer (some ⟨b3,0,none⟩)),(4,.pointer (some ⟨b4,0,none⟩)),(5,.pointer (some ⟨b5,0,none⟩))]
   [(b5,true,.cells ⟨mA cur⟩ 127 (0,0)),(b4,true,.cells ⟨[.int .i64 0,.int .i64 0,.int .i64 0,.int .i64 0,.int .i64 0,.int .i64 0]⟩ 127 (0,0)),
    (b3,true,.cells ⟨[.int .i64 send,.int .i64 read,.int .i64 lean,.slice (some ⟨vb,vo,none⟩) ml vc]⟩ 53 (0,0)),(b2,true,.cells ⟨[.int .i64 code,.slice (some ⟨eb,eo,none⟩) ps.length ec]⟩ 105 (0,0))] _ _
 by_cases c1:k=ps.length
 ·obtain⟨y0,y1,y2,y3,y4,y5,hy⟩:=six (show cur.length=6 by rw[<-sA];exact PB);subst hy;refine JL ?_;refine .rt hK func138 results138 [_] ?_;exact fun H' hs=> ⟨hs.base,by rw[<-c1,<-g2];rfl⟩
 ·have c2:k<ps.length:=by omega
  have k1:(k:Int).toNat=k:=by simp
  have f0:=WR k c2;have f1:SB true 2 es (eo+(k:Int).toNat*2)=some (.agg ⟨[.int .i64 ((ps[k]?.getD 0:Nat):Int),.int .i64 (k:Nat)]⟩):=by rw[k1];exact f0
  have f4:SB false 1 vs (vo+(k:Int).toNat*1)=some (.int .i64 (mv[k]?.getD 0)):=by rw[k1];exact hV2 k c2
  have f2:IE (mA cur) (0+(k:Int).toNat*1) [.int .i64 (kE ((ps[k]?.getD 0:Nat):Int) (k:Nat) send lean+mv[k]?.getD 0)]=mA (GD ps mv send lean (k+1)):=by
   rw[show 0+(k:Int).toNat*1=k by simp,g2];exact YS oM
  have f3:Nat.ble (0+(k:Int).toNat*1+1) (mA cur).length=true:=Nat.ble_eq_true_of_le (by rw[PB];simp;omega);have b6:=VM k c2;have b7:=J2 k;have b8:=FF (place:=((ps[k]?.getD 0:Nat):Int)) (number:=(k:Nat)) oM oM h4 h5 h6 h7;refine zH ?_;refine .al fun b7=> ?_;refine U3 ?_;refine Tc.dr [14] [1] mixed rfl ?_;refine V6 0 ?_;refine .z 6 rfl (oA.tk fun H hs=> NI M H (ps[k]?.getD 0:Nat) k send lean oM oM oM h4 h5 h6 h7) ?_;refine V7 7 ?_;refine .e 14 1 ?_;refine .dn ?_;refine U5 ?_;exact Tc.db (ih ⟨(k+1,GD ps mv send lean (k+1)),by simp only;omega,rfl⟩ (by simp only;omega))
end
def ZD(p i:Nat):Value:=.agg ⟨[.int .i64 (p:Nat),.int .i64 (i:Nat)]⟩
theorem AG(p i:Nat):flat en 2 108 [.int .i64 (p:Nat),.int .i64 (i:Nat)]:=by
 refine⟨rfl,?_⟩;intro f hf;simp only[List.mem_cons,List.not_mem_nil,or_false] at hf;rcases hf with rfl|rfl
 ·exact⟨⟨_,rfl⟩,_,rfl,rfl,Nat.le_of_ble_eq_true rfl⟩
 ·exact⟨⟨_,rfl⟩,_,rfl,rfl,Nat.le_of_ble_eq_true rfl⟩
theorem JM(p i:Nat):uE en 2 108 (ZD p i):=⟨_,_,rfl,rfl,AG p i⟩
theorem bX {p i q j:Nat}:ZD p i=ZD q j<->p=q/\i=j:=by
 simp only[ZD,Value.agg.injEq,Array.mk.injEq,List.cons.injEq,Value.int.injEq,true_and,and_true];omega
theorem v8:prog.eqGuardType prog.depth 108=false:=by kernel_rfl
def gF(read mt after:Int):Nat->Int->List (Int×Int)
 | 0,_=> []
 | f+1,n=> if n<=mt then(iB read (after+n),n)::(if iB read (after+n)=7 then [] else gF read mt after f ((2*iB read (after+n)+1)*read+1-after)) else []
def oB(l:List (Int×Int)):List Value:=(l.map fun x=> [Value.int .i64 x.1,Value.int .i64 x.2]).flatten
theorem wL(pace after:Int):∀(f:Nat) (n:Int),n<=XB pace after f n/\XB pace after f n<=n+f/\(XB pace after f n<n+f->after<=(2*XB pace after f n+1)*pace)
 | 0,n=> ⟨by simp[XB],by simp[XB],fun h=> by simp[XB] at h⟩
 | f + 1,n=> by
  unfold XB;split
  ·obtain⟨h1,h2,h3⟩:=wL pace after f (n+1);exact⟨oM,oM,fun h=> h3 oM⟩
  ·rename_i h
   exact⟨oM,oM,fun _=> by omega⟩
theorem IC(pace after:Int):0<=iB pace after/\iB pace after<=7/\(iB pace after≠7->after<=(2*iB pace after+1)*pace):=by
 obtain⟨h1,h2,h3⟩:=wL pace after 7 0;exact⟨h1,by unfold iB;omega,fun h=> h3 (by have:=h2;simp only[iB] at h;omega)⟩
structure bB where
 code:Nat
 ps:List Nat
 send:Int
 read:Int
 lean:Int
 first:Int
 mf:Int
 mt:Int
def bB.after(s:bB)(p i:Nat):Int:=kE p i s.send s.lean-kE ((s.ps[0]?.getD 0:Nat):Int) 0 s.send s.lean-s.first
def bB.opts(s:bB)(p i:Nat):List (Int×Int):=if i=0 then [(0,s.first)] else gF s.read s.mt (s.after p i) (s.mt+1-s.mf).toNat s.mf
structure bB.Ok(s:bB):Prop where
 code:s.code<32
 ps0:0<s.ps.length
 ps6:s.ps.length<=6
 places:∀i:Nat,i<s.ps.length->s.ps[i]?.getD 0<=6
 send:0<=s.send/\s.send<=1000
 read:0<=s.read/\s.read<=1000
 lean: -1000<=s.lean/\s.lean<=1000
 first: -1000<=s.first/\s.first<=1000
 mf: -1000<=s.mf/\s.mf<=1000
 mt:s.mt<=1000
def bB.val(s:bB)(eb ec mb:Nat):Value:=.agg ⟨[.int .i64 s.code,.slice (some ⟨eb,0,none⟩) s.ps.length ec,.int .i64 s.send,.int .i64 s.read,.int .i64 s.lean,.int .i64 s.first,.int .i64 s.mf,.int .i64 s.mt,.map (some mb)]⟩
def HE(H:View)(s:bB)(eb:Nat):Prop:=
 ∃f es et ez,H eb=some (f,.cells ⟨es⟩ et ez)/\∀i:Nat,i<s.ps.length->SB true 2 es (0+i*2)=some (ZD (s.ps[i]?.getD 0) i)
def QI(H:View)(s:bB)(es:List MapEntry):Prop:=∀e∈es,∃p i:Nat,e.key=ZD p i/\NA H 2 e.val (s.opts p i).length (oB (s.opts p i))
theorem QI.keys {H:View}{s:bB}{es:List MapEntry}(h:QI H s es):∀e∈es,uE en 2 108 e.key:=fun e he=> by
 obtain⟨p,i,hk,_⟩:=h e he;rw[hk];exact JM p i
theorem zM {P:Program}{M:Md P}{St:View->Goroutine->Prop}{n:Nat}{b:FB}{H₀:View}{cs:List Frame}{R:Rg}{L:Bl}{ds:List Deferred}{k:List Item}{id:Nat}{x:Code}(F:Rg->Bl->Prop)(hF:∀R L,F R L->Tc M St n b H₀ cs R L ds k)
 (h:(∀R L,F R L->Tc M St n b H₀ cs R L ds k)->Tc M St n b H₀ cs R L ds (.code x:: .inBlock id::k)):Tc M St n b H₀ cs R L ds (.code (.block id x)::k):=.block (h hF)
theorem fH(l:List (Int×Int)):(oB l).length=l.length*2:=by
 induction l with
 | nil=> rfl
 | cons x l ih=> simp only[oB,List.map_cons,List.flatten_cons,List.length_append,List.length_cons,List.length_nil] at ih ⊢;omega
theorem eJ(x:Int×Int)(l:List (Int×Int)):oB (x::l)= [.int .i64 x.1,.int .i64 x.2]++oB l:=by simp[oB]
theorem fZ {e:TypeId}{sz:Nat}(g:Gl e sz):g.bl= []\/∃b x,g.bl= [(b,x)]:=by
 unfold Gl.bl;cases g.blk with
 | none=> exact .inl rfl
 | some b=> exact .inr ⟨b,_,rfl⟩
theorem TR {H H':View}{mb:Nat}{L:Bl}{i j b:Nat}{x y:Bool×Obj}(hs:eA (H.BA mb) L H')(hi:L[i]? =some (b,x))(hj:L[j]? =some (mb,y))(mO:i≠j):H b=none/\b≠mb:=by
 have gB:b≠mb:=by
  rintro rfl;exact mO (eH hs.nodup hi hj)
 have h1:=hs.out _ (List.mem_of_getElem? hi);rw[OA gB] at h1;exact⟨h1,gB⟩
theorem QI.mono {H H':View}{s:bB}{l:List MapEntry}(h:QI H s l)(k:H.le H'):QI H' s l:=fun e he=> by
 obtain⟨p,i,h1,h2⟩:=h e he;exact⟨p,i,h1,h2.mono k⟩
def XN(s:bB)(p i mb:Nat)(Hm H:View)(v:Value)(H':View):Prop:=
 (∀b x,b≠mb->H b=some x->H' b=some x)/\∃Hm' es' cl',Hm'.le H'/\(∀b x,Hm' b=some x->Hm b=some x\/H b=none)/\Hm.le Hm'/\Hm' mb=none/\
  NA Hm' 2 v (s.opts p i).length (oB (s.opts p i))/\H' mb=some (true,.map es' cl')/\QI Hm' s es'.toList
theorem XN.put {s:bB}{p i mb b:Nat}{x:Bool×Obj}{Hm H H':View}{v:Value}{es':Array MapEntry}{cl':Nat}(h1:∀b x,b≠mb->H b=some x->H' b=some x)(hle:Hm.le H)(SN:Hm mb=none)(hb:H b=none)(gB:b≠mb)(hx:H' b=some x)
  (h2:NA (Hm.put b x) 2 v (s.opts p i).length (oB (s.opts p i))) (h3:H' mb=some (true,.map es' cl')) (h4:QI (Hm.put b x) s es'.toList):XN s p i mb Hm H v H':=by
 have hn:Hm b=none:=by
  cases h:Hm b with
  | none=> rfl
  | some y=> rw[hle _ _ h] at hb;cases hb
 refine⟨h1,Hm.put b x,es',cl',fun c y hc=> ?_,fun c y hc=> ?_,View.ZM x hn,by rw[View.kA _ _ (Ne.symm gB)];exact SN,h2,h3,h4⟩
 ·by_cases e:c=b
  ·subst e;rw[View.qA] at hc;cases hc
   exact hx
  ·rw[View.kA _ _ e] at hc;exact h1 c y (fun e=> by rw[e,SN] at hc;cases hc) (hle _ _ hc)
 ·by_cases e:c=b
  ·subst e;exact .inr hb
  ·rw[View.kA _ _ e] at hc;exact .inl hc
theorem XN.same {s:bB}{p i mb:Nat}{Hm H H':View}{v:Value}{es':Array MapEntry}{cl':Nat}(h1:∀b x,b≠mb->H b=some x->H' b=some x)(hle:Hm.le H)(SN:Hm mb=none)
  (h2:NA Hm 2 v (s.opts p i).length (oB (s.opts p i))) (h3:H' mb=some (true,.map es' cl')) (h4:QI Hm s es'.toList):XN s p i mb Hm H v H':=
 ⟨h1,Hm,es',cl',fun c y hc=> h1 c y (fun e=> by rw[e,SN] at hc;cases hc) (hle _ _ hc),fun _ _ h=> .inl h,View.le_refl _,SN,h2,h3,h4⟩
section
variable(M:Md prog)(H:View)
theorem kP(s:bB)(GB:s.Ok)(eb ec mb:Nat)(es:Array MapEntry)(cl p i:Nat)(hE:HE H s eb)(hM:H mb=some (true,.map es cl))(Hm:View)(hm:QI Hm s es.toList)(hle:Hm.le H)(SN:Hm mb=none)(hi:i<s.ps.length)(hp:p=s.ps[i]?.getD 0):
  cA M 122 #[s.val eb ec mb,ZD p i] H (XN s p i mb Hm H):=by
 obtain⟨f,ec',et,ez,eU,WR⟩:=hE;have gB:eb≠mb:=by rintro rfl;rw[eU] at hM;cases hM
 have hE0:(H.BA mb) eb=some (f,.cells ⟨ec'⟩ et ez):=by rw[OA gB];exact eU
 have hq:=WR 0 GB.ps0;have VV:∀(H':View),(H.BA mb).le H'->∀b x,b≠mb->H b=some x->H' b=some x:=fun H' hle b x hb hx=> hle b x (by rw[OA hb];exact hx);refine cA.enter (vs:= [s.val eb ec mb,ZD p i]) func122 rfl ntmps122 (Nat.le_of_ble_eq_true rfl) (eA.pull hM) fun St c cs hK=> ?_;refine U2 ?_;refine .bo fun b2=> ?_;refine .bo fun b3=> ?_;refine U4 ?_;have hq2:decide (i=0)=true<-> [Value.int .i64 (p:Nat),.int .i64 (i:Nat)]= [.int .i64 ((s.ps[0]?.getD 0:Nat):Int),.int .i64 ((0:Nat):Int)]:=by
  simp only[decide_eq_true_eq,List.cons.injEq,Value.int.injEq,true_and,and_true];constructor
  ·rintro rfl;rw[hp];simp
  ·rintro⟨_,h⟩;omega
 by_cases lX:i=0
 ·subst lX;refine Tc.dr [] [] mixed rfl ?_;refine V6 0 ?_;refine .q 6 rfl (oA.eqA (E:=en) true 2 rfl rfl rfl rfl rfl v8 dE (AG p 0) (AG (s.ps[0]?.getD 0) 0) hq2) ?_;refine .dn ?_;refine U6 ?_;refine .e (.bs (zz:=fun bs=> ?_));refine U2 ?_;refine .rt hK func122 results122 [_] ?_;intro H' hs;obtain⟨f1,f2⟩:=TR hs (i:=0) (j:=3) rfl rfl dE;have hn:Hm bs=none:=by
   cases h:Hm bs with
   | none=> rfl
   | some y=> rw[hle _ _ h] at f1;cases f1
  exact XN.put (VV H' hs.base) hle SN f1 f2 (hs.get (i:=0) rfl) ⟨⟨_,_,rfl⟩,rfl,.inr ⟨bs,0,1,true,_,_,_,rfl,View.qA ..,Nat.le_of_ble_eq_true rfl,rfl⟩⟩ (hs.get (i:=3) rfl) (hm.mono (View.ZM _ hn))
 ·rw[decide_eq_false lX] at hq2;refine Tc.dr [] [] mixed rfl ?_;refine V6 0 ?_;refine .q 6 rfl (oA.eqA (E:=en) false 2 rfl rfl rfl rfl rfl v8 dE (AG p i) (AG (s.ps[0]?.getD 0) 0) hq2) ?_;refine .dn ?_;refine U7 ?_;refine .e (Or.lookup (E:=en) 2 rfl rfl rfl (fun H' hs=> ⟨true,hs.get (i:=2) rfl⟩) rfl rfl rfl dE (JM p i) hm.keys rfl dE (fun r hr=> ?_));cases r with
  | some x=>
   obtain⟨j,v⟩:=x;obtain⟨e,h1,h2,rfl⟩:=hr;obtain⟨q,k,h3,h4⟩:=hm e (List.mem_of_getElem? h1);rw[h2] at h3;obtain⟨rfl,rfl⟩:=bX.1 h3;refine xT ?_;refine .rt hK func122 results122 [_] ?_;exact fun H' hs=> XN.same (VV H' hs.base) hle SN h4 (hs.get (i:=2) rfl) hm
  | none=>
   have p1:=GB.places i hi;rw[<-hp] at p1;have p0:=GB.places 0 GB.ps0;obtain⟨s1,s2⟩:=GB.send;obtain⟨l1,l2⟩:=GB.lean;obtain⟨q1,q2⟩:=GB.first;have b1:=FF (place:=(p:Nat)) (number:=(i:Nat)) oM oM s1 s2 l1 l2;have b0:=FF (place:=((s.ps[0]?.getD 0:Nat):Int)) (number:=0) oM oM s1 s2 l1 l2;refine zH ?_;refine Tc.dr [] [] mixed rfl ?_;refine V5 0 ?_;refine .z 5 rfl (oA.tk fun H hs=> NI M H p i s.send s.lean oM oM oM s1 s2 l1 l2) ?_;refine V9 6 ?_;refine .z 15 rfl (oA.tk fun H hs=> NI M H (s.ps[0]?.getD 0:Nat) 0 s.send s.lean oM oM oM s1 s2 l1 l2) ?_;refine V5 16 ?_;refine .dn ?_;refine U8 ?_;have w1: -16000<=s.after p i/\s.after p i<=16000:=by unfold bB.after;omega
   have aCz:s.opts p i=gF s.read s.mt (s.after p i) (s.mt+1-s.mf).toNat s.mf:=by unfold bB.opts;rw[if_neg lX]
   have mf1:=GB.mf;have mt1:=GB.mt;obtain⟨r1,r2⟩:=GB.read;refine zM (fun R' L'=> ∃g:Gl 210 2,g.l=oB (s.opts p i)/\R'= [(5,g.val),(2,.pointer (some ⟨b2,0,none⟩)),(3,.pointer (some ⟨b3,0,none⟩))]/\
    L'=(b3,true,.cells ⟨(ZD p i).cells.toList⟩ 108 (0,0))::(b2,true,.cells ⟨(s.val eb ec mb).cells.toList⟩ 165 (0,0))::(mb,true,.map es cl)::g.bl) ?_ (fun fin=> ?_)
   ·rintro _ _ ⟨g,hg,rfl,rfl⟩;refine U6 ?_;refine .e (Or.mapUpdate (E:=en) 2 2 rfl rfl rfl rfl rfl rfl rfl dE (JM p i) hm.keys rfl (fun r vE=> ?_));refine U6 ?_;refine .rt hK func122 results122 [_] ?_;intro H' hs;have hlen:g.n=(s.opts p i).length:=by
     have h3:=g.hl;rw[hg,fH] at h3;omega
    have nG:∀Hv:View,(∀y∈g.bl,Hv y.1=some y.2)->NA Hv 2 g.val (s.opts p i).length (oB (s.opts p i)):=fun Hv hv=> by
     have h1:=g.src (H:=Hv) hv;rw[hlen,hg] at h1;exact h1
    cases r with
    | some x=>
     obtain⟨j,w⟩:=x;obtain⟨e,h1,h2,_⟩:=vE;exact absurd h2 (hr e (List.mem_of_getElem? h1))
    | none=>
     have QC:∀Hv:View,Hm.le Hv->NA Hv 2 g.val (s.opts p i).length (oB (s.opts p i))->QI Hv s (es.push ⟨ZD p i,g.val,cl⟩).toList:=fun Hv hv qX e he=> by
      simp only[Array.toList_push,List.mem_append,List.mem_singleton] at he;rcases he with he|rfl
      ·exact hm.mono hv e he
      ·exact⟨p,i,rfl,qX⟩
     rcases fZ g with h0|⟨gb,gx,h0⟩
     ·have h5:=nG Hm (by rw[h0];simp);exact XN.same (VV H' hs.base) hle SN h5 (hs.get (i:=2) rfl) (QC Hm (View.le_refl _) h5)
     ·rw[h0] at hs;obtain⟨f1,f2⟩:=TR hs (i:=3) (j:=2) rfl rfl dE;have hn:Hm gb=none:=by
       cases h:Hm gb with
       | none=> rfl
       | some y=> rw[hle _ _ h] at f1;cases f1
      have h5:=nG (Hm.put gb gx) (by rw[h0];simp[View.qA]);exact XN.put (VV H' hs.base) hle SN f1 f2 (hs.get (i:=3) rfl) h5 (hs.get (i:=2) rfl) (QC _ (View.ZM _ hn) h5)
   ·refine Tc.db (Tc.vA (σ:= { x:Int×Nat×Gl 210 2 // -1000<=x.1/\x.1<=40000/\(s.mt+1-x.1).toNat<=x.2.1/\x.2.2.n+x.2.1<=5000/\x.2.2.l++oB (gF s.read s.mt (s.after p i) x.2.1 x.1)=oB (s.opts p i) })
     (fun x=> ([(8,.int .i64 x.1.1),(7,.int .i64 (s.after p i)),(5,x.1.2.2.val),(2,.pointer (some ⟨b2,0,none⟩)),(3,.pointer (some ⟨b3,0,none⟩))],
      (b3,true,.cells ⟨(ZD p i).cells.toList⟩ 108 (0,0))::(b2,true,.cells ⟨(s.val eb ec mb).cells.toList⟩ 165 (0,0))::(mb,true,.map es cl)::x.1.2.2.bl)) (fun x=> x.1.2.1) ?_
     ⟨(s.mf,(s.mt+1-s.mf).toNat,Gl.nil 210 2),mf1.1,by show s.mf<=_;omega,Nat.le_refl _,by show 0+(s.mt+1-s.mf).toNat<=_;omega,by rw[aCz];rfl⟩)
    rintro⟨⟨n,f,g⟩,g1,g2,g3,g4,g5⟩ ih;simp only at g1 g2 g3 g4 g5;show Tc M St _ _ _ _ [(8,.int .i64 n),(7,.int .i64 (s.after p i)),(5,g.val),(2,.pointer (some ⟨b2,0,none⟩)),(3,.pointer (some ⟨b3,0,none⟩))]
      ((b3,true,.cells ⟨(ZD p i).cells.toList⟩ 108 (0,0))::(b2,true,.cells ⟨(s.val eb ec mb).cells.toList⟩ 165 (0,0))::(mb,true,.map es cl)::g.bl) _ _
    by_cases c1:n<=s.mt
    ·obtain⟨f,rfl⟩:∃f',f=f'+1:=⟨f-1,oM⟩
     obtain⟨m1,m2,m3⟩:=IC s.read (s.after p i+n);have hc:=tS M H s.read (s.after p i+n) oM oM;unfold gF at g5;rw[if_pos c1,eJ,<-List.append_assoc] at g5;generalize hmm:iB s.read (s.after p i+n)=m at m1 m2 m3 g5;have x1:0<=(2*m+1)*s.read:=Int.mul_nonneg oM oM;have x2:(2*m+1)*s.read<=15*1000:=Int.mul_le_mul oM r2 oM oM;refine BV ?_;refine .cl (fun H hs=> hmm▸tS M H s.read (s.after p i+n) oM oM) ?_;refine U2 ?_;refine .al fun b9=> ?_;refine U6 ?_;refine .e (.bs (zz:=fun bs=> ?_));refine .e (Or.append (E:=en) 5 rfl rfl rfl rfl rfl rfl rfl rfl rfl rfl rfl rfl rfl rfl rfl (fun H hs=> NA.of (hs.get (i:=0) rfl) (Nat.le_of_ble_eq_true rfl)) rfl oM rfl dE (fun g' hn hl=> ?_));refine U2 ?_;have hl':g'.l=g.l++[.int .i64 m,.int .i64 n]:=hl;refine U2 ?_;by_cases c7:m=7
     ·subst c7;rw[if_pos rfl] at g5;have XC:g'.l=oB (s.opts p i):=by
       rw[hl',<-g5];simp[oB]
      refine U7 ?_;have hf:=fin _ _ ⟨g',XC,rfl,rfl⟩;exact Tc.db hf
     ·rw[if_neg c7] at g5;refine zI ?_;refine .i ?_ (z:=JC oM oM);refine U3 ?_;refine .i ?_ (z:=JC oM oM);refine U6 ?_;have x3:=m3 c7;exact Tc.db (ih ⟨((2*m+1)*s.read+1-s.after p i,f,g'),by simp only;omega,by simp only;omega,by simp only;omega,by simp only;omega,by simp only;rw[hl'];exact g5⟩ (by simp))
    ·have c2:gF s.read s.mt (s.after p i) f n= []:=by
      cases f with
      | zero=> rfl
      | succ f=> unfold gF;rw[if_neg c1]
     rw[c2] at g5;refine eF ?_;exact Tc.db (fin _ _ ⟨g,by simpa [oB] using g5,rfl,rfl⟩)
end
structure Lk where
 s0:Int
 s1:Int
 r0:Int
 r1:Int
 l0:Int
 l1:Int
 m0:Int
 m1:Int
def Lk.val(k:Lk):Value:=.agg ⟨[.int .i64 k.s0,.int .i64 k.s1,.int .i64 k.r0,.int .i64 k.r1,.int .i64 k.l0,.int .i64 k.l1,.int .i64 k.m0,.int .i64 k.m1]⟩
def tB(a b:Int):Bool:=decide (1<=a/\a<=b/\b<=40/\b-a<3)
def eE(a b:Int):Bool:=decide (-9<=a/\a<=b/\b<=9/\b-a<3)
def yE(a b:Int):Bool:=decide (-12<=a/\a<=b/\b<=12/\b-a<25)
def Lk.sends(k:Lk):Bool:=tB k.s0 k.s1
def Lk.reads(k:Lk):Bool:=tB k.r0 k.r1
def Lk.nS(k:Lk):Bool:=eE k.l0 k.l1
def Lk.uS(k:Lk):Bool:=yE k.m0 k.m1
section
variable(M:Md prog)(H:View)
theorem HI(a b:Int):cA M 71 #[rB a b] H (fun v H'=> H.le H'/\v=.bool (decide (1<=a/\a<=b/\b<=40/\b-a<3))):=by
 refine .en func71 ntmps71 fun St c cs hK=> ?_;refine U2 ?_;refine .bo fun b1=> ?_;refine U5 ?_;refine .cl (fun H hs=> yD M H a b) ?_;refine .cl (fun H hs=> NN M H a b 1 40 3 oM oM) ?_;refine U2 ?_;refine .rt hK func71 results71 [_] ?_;exact okB
theorem u7(k:Lk):cA M 264 #[k.val] H (fun v H'=> H.le H'/\v=.bool k.sends):=by
 refine .en func264 ntmps264 fun St c cs hK=> ?_;refine U2 ?_;refine .bo fun b1=> ?_;refine U7 ?_;refine .cl (fun H hs=> HI M H k.s0 k.s1) ?_;refine U2 ?_;refine .rt hK func264 results264 [_] ?_;exact okB
theorem p7(k:Lk):cA M 265 #[k.val] H (fun v H'=> H.le H'/\v=.bool k.reads):=by
 refine .en func265 ntmps265 fun St c cs hK=> ?_;refine U2 ?_;refine .bo fun b1=> ?_;refine U7 ?_;refine .cl (fun H hs=> HI M H k.r0 k.r1) ?_;refine U2 ?_;refine .rt hK func265 results265 [_] ?_;exact okB
theorem u6(k:Lk):cA M 259 #[k.val] H (fun v H'=> H.le H'/\v=.bool k.nS):=by
 refine .en func259 ntmps259 fun St c cs hK=> ?_;refine U2 ?_;refine .bo fun b1=> ?_;refine U8 ?_;refine .cl (fun H hs=> yD M H k.l0 k.l1) ?_;refine .cl (fun H hs=> NN M H k.l0 k.l1 (-9) 9 3 oM oM) ?_;refine U2 ?_;refine .rt hK func259 results259 [_] ?_;exact okB
theorem H6(k:Lk):cA M 266 #[k.val] H (fun v H'=> H.le H'/\v=.bool k.uS):=by
 refine .en func266 ntmps266 fun St c cs hK=> ?_;refine U2 ?_;refine .bo fun b1=> ?_;refine U8 ?_;refine .cl (fun H hs=> yD M H k.m0 k.m1) ?_;refine .cl (fun H hs=> NN M H k.m0 k.m1 (-12) 12 25 oM oM) ?_;refine U2 ?_;refine .rt hK func266 results266 [_] ?_;exact okB
def tD(p:Nat->Bool):Nat->Bool
 | 0=> true
 | k+1=> tD p k&&p k
theorem AR {p:Nat->Bool}{k:Nat}(h:tD p k=false):∀m,k<=m->tD p m=false:=by
 intro m hm;induction m with
 | zero=>
  have:k=0:=by omega
  subst this;exact h
 | succ m ih=>
  by_cases e:k=m+1
  ·subst e;exact h
  ·rw[tD,ih oM];rfl
theorem HV(kv:List Value)(gb off m cc:Nat)(f:Bool)(gs:List Value)(gt:TypeId)(gz:Nat×Nat)(fv:Nat->Value)(p:Nat->Bool)(hm:m<=1000)(hk8:kv.length=8)(hG:H gb=some (f,.cells ⟨gs⟩ gt gz))(Q9:∀i:Nat,i<m->SB false 1 gs (off+i*1)=some (fv i))
  (hp:∀i:Nat,i<m->∀H',H.le H'->UC M (fv i) [.agg ⟨kv⟩] H' fun v H''=> H'.le H''/\v=.bool (p i)):
  cA M 88 #[.agg ⟨kv⟩,.slice (some ⟨gb,off,none⟩) m cc] H (fun v H'=> H.le H'/\v=.int .i64 (if tD p m then 0 else 1)):=by
 obtain⟨a0,a1,a2,a3,a4,a5,a6,a7,rfl⟩:∃a0 a1 a2 a3 a4 a5 a6 a7,kv= [a0,a1,a2,a3,a4,a5,a6,a7]:=by
  match kv,hk8 with
  | [a0,a1,a2,a3,a4,a5,a6,a7],_=> exact⟨a0,a1,a2,a3,a4,a5,a6,a7,rfl⟩
 refine .en func88 ntmps88 fun St c cs hK=> ?_;refine U2 ?_;refine .bo fun b2=> ?_;refine zI ?_;refine Tc.db (Tc.vA (σ:= { k:Nat//k<=m/\tD p k=true })
  (fun s=> ([(9,.int .i64 (s.1:Nat)),(8,.int .i64 m),(7,.slice (some ⟨gb,off,none⟩) m cc),(2,.pointer (some ⟨b2,0,none⟩))],[(b2,true,.cells ⟨[a0,a1,a2,a3,a4,a5,a6,a7]⟩ 112 (0,0))])) (fun s=> m-s.1) ?_ ⟨0,by simp,rfl⟩)
 rintro⟨k,g1,g2⟩ ih;show Tc M St _ _ _ _ [(9,.int .i64 (k:Nat)),(8,.int .i64 m),(7,.slice (some ⟨gb,off,none⟩) m cc),(2,.pointer (some ⟨b2,0,none⟩))] [(b2,true,.cells ⟨[a0,a1,a2,a3,a4,a5,a6,a7]⟩ 112 (0,0))] _ _;by_cases c1:k=m
 ·subst c1;refine eF ?_;refine .rt hK func88 results88 [_] ?_;exact fun H' hs=> ⟨hs.base,by rw[g2];rfl⟩
 ·have c2:k<m:=by omega
  have f1:SB false 1 gs (off+(k:Int).toNat*1)=some (fv k):=by rw[show(k:Int).toNat=k by simp];exact Q9 k c2
  cases L2:p k with
  | true=>
   refine BV ?_;refine .c rfl rfl rfl rfl (fun H hs=> L2▸hp k c2 H hs.base) ?_;refine U9 ?_;exact Tc.db (ih ⟨k+1,oM,by rw[tD,g2,L2];rfl⟩ (by simp only;omega))
  | false=>
   have h2:=AR (p:=p) (k:=k+1) (by rw[tD,L2];simp) m oM;refine BV ?_;refine .c rfl rfl rfl rfl (fun H hs=> L2▸hp k c2 H hs.base) ?_;refine U7 ?_;refine .rt hK func88 results88 [_] ?_;exact fun H' hs=> ⟨hs.base,by rw[h2];rfl⟩
end
def EM(i:Nat):Value:=.func (.func ([264,265,259,266][i]?.getD 0)) #[] #[]
def FC(H:View):Prop:=∃f gt gz,H 0=some (f,.cells ⟨[EM 0,EM 1,EM 2,EM 3]⟩ gt gz)
def Lk.S4(k:Lk)(i:Nat):Bool:= [k.sends,k.reads,k.nS,k.uS][i]?.getD true
def Lk.ok(k:Lk):Bool:=tD k.S4 4
def Lk.bI(k:Lk):Bool:=tD (fun i=> k.S4 (2+i)) 2
section
variable(M:Md prog)(H:View)
theorem j8(k:Lk)(i:Nat)(hi:i<4)(H':View):UC M (EM i) [k.val] H' fun v H''=> H'.le H''/\v=.bool (k.S4 i):=by
 match i,hi with
 | 0,_=> exact UC.h (u7 M H' k)
 | 1,_=> exact UC.h (p7 M H' k)
 | 2,_=> exact UC.h (u6 M H' k)
 | 3,_=> exact UC.h (H6 M H' k)
theorem KR(k:Lk)(hG:FC H):cA M 49 #[k.val] H (fun v H'=> H.le H'/\v=.int .i64 (if k.ok then 0 else 1)):=by
 obtain⟨f,gt,gz,hG⟩:=hG;refine .en func49 ntmps49 fun St c cs hK=> ?_;refine U2 ?_;refine .bo fun b1=> ?_;refine U3 ?_;refine Tc.dr [] [] mixed rfl ?_;refine V2 0 ?_;refine .q 2 rfl (oA.JJ (E:=en) (off':=0) rfl rfl rfl rfl rfl rfl rfl rfl dE dE dE (by rw[if_neg dE];rfl)) ?_;refine .z 3 rfl (oA.tk fun H hs=> HV M H _ 0 0 4 4 f _ gt gz EM k.S4 oM rfl (hs.base _ _ hG) (fun i hi=> by match i,hi with|0,_=> rfl|1,_=> rfl|2,_=> rfl|3,_=> rfl) (fun i hi H' _=> j8 M k i hi H')) ?_;refine .nn 4 ?_;refine .dn ?_;refine .rt hK func49 results49 [_] ?_;exact okB
theorem RF(x y z u:Int)(hG:FC H):cA M 111 #[.agg ⟨[.int .i64 x,.int .i64 y,.int .i64 z,.int .i64 u]⟩] H (fun v H'=> H.le H'/\v=.int .i64 (if(⟨0,0,0,0,x,y,z,u⟩:Lk).bI then 0 else 1)):=by
 obtain⟨f,gt,gz,hG⟩:=hG;refine .en func111 ntmps111 fun St c cs hK=> ?_;refine U2 ?_;refine .bo fun b1=> ?_;refine U3 ?_;refine Tc.dr [] [] mixed rfl ?_;refine V3 0 ?_;refine .q 3 rfl (oA.JJ (E:=en) (off':=2) rfl rfl rfl rfl rfl rfl rfl rfl dE dE dE (by rw[if_neg dE];rfl)) ?_;refine .z 4 rfl (oA.tk fun H hs=> HV M H _ 0 2 2 2 f _ gt gz (fun i=> EM (2+i)) (fun i=> (⟨0,0,0,0,x,y,z,u⟩:Lk).S4 (2+i)) oM rfl (hs.base _ _ hG) (fun i hi=> by match i,hi with|0,_=> rfl|1,_=> rfl) (fun i hi H' _=> j8 M ⟨0,0,0,0,x,y,z,u⟩ (2+i) oM H')) ?_;refine .nn 5 ?_;refine .dn ?_;refine .rt hK func111 results111 [_] ?_;exact okB
end
theorem EB {e:TypeId}{sz:Nat}(g:Gl e sz):(g.bl.map (·.1)).Nodup:=by
 unfold Gl.bl;split <;> simp
def jM(code:Nat)(g:Gl 108 2):Value:=.agg ⟨[.int .i64 code,g.val]⟩
theorem HA {H H':View}(h:FC H)(k:H.le H'):FC H':=by
 obtain⟨f,gt,gz,h⟩:=h;exact⟨f,gt,gz,k _ _ h⟩
section
variable(M:Md prog)(H:View)
theorem gD(k:Lk)(hG:FC H)(h:k.ok=true):cA M 49 #[k.val] H (fun v H'=> H.le H'/\v=.int .i64 0):=
 cA.mono (KR M H k hG) fun v H' ⟨h1,h2⟩=> ⟨h1,by rw[h2,h];rfl⟩
theorem XM(x:Int)(h:0<=x/\x<=31):cA M 47 #[.int .i64 x] H (fun v H'=> H.le H'/\v=.bool true):=
 cA.mono (BZ M H x) fun v H' ⟨h1,h2⟩=> ⟨h1,by rw[h2,decide_eq_true h]⟩
theorem zS(k:Lk)(code:Nat)(hG:FC H)(hk:k.ok=true)(hc:code<32):cA M 52 #[k.val,.int .i64 code] H (fun v H'=> H.le H'/\∃g:Gl 108 2,v=.tuple ⟨[k.val,jM code g,.int .i64 0]⟩/\(g.n=(bA code 7).length/\g.l=wB (bA code 7))/\∀y∈g.bl,H' y.1=some y.2/\H y.1=none):=by
 refine .en func52 ntmps52 fun St c cs hK=> ?_;refine U2 ?_;refine .bo fun b2=> ?_;refine .al fun b4=> ?_;refine .al fun b5=> ?_;refine U6 ?_;refine .cl (fun H hs=> gD M H k (HA hG hs.base) hk) ?_;refine aJ ?_;refine .cl (fun H hs=> XM M H code oM) ?_;refine U5 ?_;refine Tc.dr [4,5] [0,1] mixed rfl ?_;refine V2 0 ?_;refine .nw 2 ?_;refine .ea 3 rfl (Or.uA (jM code) Gl.bl (fun g=> g.n=(bA code 7).length/\g.l=wB (bA code 7)) rfl rfl rfl rfl rfl dE EB (fun H hs=> .h (cA.mono (vJ M H code hc) (by rintro v H' ⟨h1,g,h2,h3,h4,h5⟩;exact⟨h1,g,h2,⟨h3,h4⟩,h5⟩))) (fun g hg=> ⟨S2.mk sL (.inr sL),?_⟩));refine .e 4 1 ?_;refine .e 5 0 ?_;refine .nw 6 ?_;refine .dn ?_;refine .rt hK func52 results52 [_,_,_] ?_;exact fun H' hs=> ⟨hs.base,g,rfl,hg,fun y hy=> ⟨hs.at_ y (List.mem_cons_of_mem _ (List.mem_cons_of_mem _ (List.mem_cons_of_mem _ hy))),hs.out y (List.mem_cons_of_mem _ (List.mem_cons_of_mem _ (List.mem_cons_of_mem _ hy)))⟩⟩
end
def rG(x:Nat->Int):Nat->Int
 | 0=> 0
 | k+1=> rG x k+x k
theorem wK {x:Nat->Int}{m:Nat}(h:∀i,i<m-> -1000000<=x i/\x i<=1000000):∀k,k<=m-> -1000000*(k:Int)<=rG x k/\rG x k<=1000000*(k:Int)
 | 0,_=> by simp[rG]
 | k+1,hk=> by
  have h1:=wK h k oM;have h2:=h k oM;simp only[rG];omega
def fF(x y z u:Int):Value:=.agg ⟨[.int .i64 x,.int .i64 y,.int .i64 z,.int .i64 u]⟩
section
variable(M:Md prog)(H:View)
theorem aAk(gb off m cc:Nat)(f:Bool)(gs:List Value)(gt:TypeId)(gz:Nat×Nat)(x y z u:Nat->Int)(hm:m<=1000)(hG:H gb=some (f,.cells ⟨gs⟩ gt gz))(Q9:∀i:Nat,i<m->SB true 4 gs (off+i*4)=some (fF (x i) (y i) (z i) (u i)))
  (hx:∀i,i<m-> -1000000<=x i/\x i<=1000000) (hy:∀i,i<m-> -1000000<=y i/\y i<=1000000) (hz:∀i,i<m-> -1000000<=z i/\z i<=1000000) (hu:∀i,i<m-> -1000000<=u i/\u i<=1000000):
  cA M 152 #[.slice (some ⟨gb,off,none⟩) m cc] H (fun v H'=> H.le H'/\v=fF (rG x m) (rG y m) (rG z m) (rG u m)):=by
 refine .en func152 ntmps152 fun St c cs hK=> ?_;refine U2 ?_;refine .al fun b2=> ?_;refine U3 ?_;refine .al fun b3=> ?_;refine U9 ?_;refine Tc.db (Tc.vA (σ:= { k:Nat//k<=m })
  (fun s=> ([(8,.int .i64 (s.1:Nat)),(7,.int .i64 m),(6,.slice (some ⟨gb,off,none⟩) m cc),(2,.pointer (some ⟨b2,0,none⟩)),(3,.pointer (some ⟨b3,0,none⟩))],
   [(b3,true,.cells ⟨[.int .i64 (rG x s.1),.int .i64 (rG y s.1),.int .i64 (rG z s.1),.int .i64 (rG u s.1)]⟩ 38 (0,0)),(b2,true,.cells ⟨[.int .i64 0,.int .i64 0,.int .i64 0,.int .i64 0]⟩ 38 (0,0))])) (fun s=> m-s.1) ?_ ⟨0,by simp⟩)
 rintro⟨k,g1⟩ ih;show Tc M St _ _ _ _ [(8,.int .i64 (k:Nat)),(7,.int .i64 m),(6,.slice (some ⟨gb,off,none⟩) m cc),(2,.pointer (some ⟨b2,0,none⟩)),(3,.pointer (some ⟨b3,0,none⟩))]
   [(b3,true,.cells ⟨[.int .i64 (rG x k),.int .i64 (rG y k),.int .i64 (rG z k),.int .i64 (rG u k)]⟩ 38 (0,0)),(b2,true,.cells ⟨[.int .i64 0,.int .i64 0,.int .i64 0,.int .i64 0]⟩ 38 (0,0))] _ _
 by_cases c1:k=m
 ·subst c1;refine JL ?_;refine .rt hK func152 results152 [_] ?_;exact okB
 ·have c2:k<m:=by omega
  have f1:SB true 4 gs (off+(k:Int).toNat*4)=some (fF (x k) (y k) (z k) (u k)):=by rw[show(k:Int).toNat=k by simp];exact Q9 k c2
  have x1:=wK hx k g1;have x2:=hx k c2;have y1:=wK hy k g1;have y2:=hy k c2;have z1:=wK hz k g1;have z2:=hz k c2;have u1:=wK hu k g1;have u2:=hu k c2;refine aJ ?_;refine .al fun b5=> ?_;refine U58 ?_;exact Tc.db (ih ⟨k+1,oM⟩ (by simp only;omega))
end
set_option maxHeartbeats 4000000
def tE(a b:Int):List Int:=(List.range (b+1-a).toNat).map fun i=> a+(i:Nat)
theorem P1 {a b:Int}(h:b<a):tE a b= []:=by
 unfold tE;rw[show(b+1-a).toNat=0 by omega];rfl
theorem ZX {a b:Int}(h:a<=b):tE a b=a::tE (a+1) b:=by
 unfold tE;rw[show(b+1-a).toNat=(b+1-(a+1)).toNat+1 by omega,List.range_succ_eq_map];simp only[List.map_cons,List.map_map,List.cons.injEq];refine⟨by simp,List.map_congr_left fun i _=> ?_⟩;simp only[Function.comp,Nat.succ_eq_add_one];omega
theorem fE {a b x:Int}:x∈tE a b<->a<=x/\x<=b:=by
 unfold tE;simp only[List.mem_map,List.mem_range];constructor
 ·rintro⟨i,h,rfl⟩;omega
 ·rintro⟨h1,h2⟩;exact⟨(x-a).toNat,oM,oM⟩
def Lk.stg(k:Lk)(code:Nat)(s r n f:Int):bB:=⟨code,bA code 7,s,r,n,f,k.m0,k.m1⟩
def Lk.uK(k:Lk)(code:Nat)(s r n:Int)(l:List Int):List bB:=l.map fun f=> k.stg code s r n f
def Lk.oF(k:Lk)(code:Nat)(s r:Int)(l:List Int):List bB:=l.flatMap fun n=> k.uK code s r n (tE k.m0 k.m1)
def Lk.nF(k:Lk)(code:Nat)(s:Int)(l:List Int):List bB:=l.flatMap fun r=> k.oF code s r (tE k.l0 k.l1)
def Lk.kH(k:Lk)(code:Nat)(l:List Int):List bB:=l.flatMap fun s=> k.nF code s (tE k.r0 k.r1)
def Lk.vO(k:Lk)(code:Nat):List bB:=k.kH code (tE k.s0 k.s1)
theorem Lk.RQ(k:Lk)(code:Nat)(s r:Int)(l:List Int)(X:List bB):k.nF code s (r::l)++X=k.oF code s r (tE k.l0 k.l1)++(k.nF code s l++X):=by simp[Lk.nF]
theorem Lk.SQ(k:Lk)(code:Nat)(s r n:Int)(l:List Int)(X:List bB):k.oF code s r (n::l)++X=k.uK code s r n (tE k.m0 k.m1)++(k.oF code s r l++X):=by simp[Lk.oF]
theorem Lk.fN {k:Lk}{code:Nat}{x:bB}:x∈k.vO code<->∃s r n f,(k.s0<=s/\s<=k.s1)/\(k.r0<=r/\r<=k.r1)/\(k.l0<=n/\n<=k.l1)/\(k.m0<=f/\f<=k.m1)/\x=k.stg code s r n f:=by
 simp only[Lk.vO,Lk.kH,Lk.nF,Lk.oF,Lk.uK,List.mem_flatMap,List.mem_map,fE];constructor
 ·rintro⟨s,hs,r,hr,n,hn,f,hf,rfl⟩;exact⟨s,r,n,f,hs,hr,hn,hf,rfl⟩
 ·rintro⟨s,r,n,f,hs,hr,hn,hf,rfl⟩;exact⟨s,hs,r,hr,n,hn,f,hf,rfl⟩
structure tR(k:Lk)(code m eb ec b2 b5 b3:Nat)(H:View):Prop where
 l:H b2=some (true,.cells ⟨[.int .i64 k.s0,.int .i64 k.s1,.int .i64 k.r0,.int .i64 k.r1,.int .i64 k.l0,.int .i64 k.l1,.int .i64 k.m0,.int .i64 k.m1]⟩ 112 (0,0))
 mv:H b5=some (true,.cells ⟨[.int .i64 k.m0,.int .i64 k.m1]⟩ 162 (0,0))
 x:H b3=some (true,.cells ⟨[.int .i64 code,.slice (some ⟨eb,0,none⟩) m ec]⟩ 105 (0,0))
theorem tR.le {k:Lk}{code m eb ec b2 b5 b3:Nat}(H H':View)(h:H.le H')(c:tR k code m eb ec b2 b5 b3 H):tR k code m eb ec b2 b5 b3 H':=⟨h _ _ c.l,h _ _ c.mv,h _ _ c.x⟩
def v7(b2 b5 b3:Nat):Value:=.func (.func 121) #[] #[.pointer (some ⟨b2,0,none⟩),.pointer (some ⟨b5,0,none⟩),.pointer (some ⟨b3,0,none⟩)]
section
variable(M:Md prog)(H:View)
theorem kJ(a b:Int)(ha: -1000000000<=a)(hb:b<=1000000000):uM M (.func (.func 99) #[rB a b] #[]) (tE a b) (fun i (_:Unit)=> [.int .i64 i]) (fun _ _=> []) (fun _ _=> []) (fun _=> True) [] H:=fun l J D _ h0 hy H₀ LD=>
 UC.of (first:= [rB a b]) (captured:= []) aDR rfl (cA.mono (aBR M H₀ a b (.func (.yield l) #[] #[]) (fun i Hv=> ∃H₂,H₂.le Hv/\J (tE i b) H₂) D ha hb ⟨H,LD.base,h0⟩ (fun i H' h1 h2 ⟨H₂,h3,h4⟩=> by
  rw[ZX h2] at h4;refine UC.mono (hy i (tE (i+1) b) () H₂ H' (fE.2 ⟨h1,h2⟩) h4 ⟨by simp,by simp,by simp,h3⟩) ?_;rintro v H3 (⟨rfl,H4,h5,h6⟩|⟨rfl,h5⟩)
  ·exact .inl ⟨rfl,H4,h5.base,h6⟩
  ·exact .inr ⟨rfl,h5⟩)) (by
  rintro v H' ⟨H₁,h1,⟨i,h2,_,_,H₂,h3,h4⟩|h2⟩
  ·rw[P1 h2] at h4;exact⟨H₂,View.le_trans h3 h1,.inl h4⟩
  ·exact⟨H₁,h1,.inr h2⟩))
theorem AN(k:Lk)(code m eb ec:Nat):cA M 89 #[k.val,.agg ⟨[.int .i64 code,.slice (some ⟨eb,0,none⟩) m ec]⟩] H (fun v H'=> H.le H'/\∃b2 b5 b3,v=v7 b2 b5 b3/\tR k code m eb ec b2 b5 b3 H'):=by
 refine .en func89 ntmps89 fun St c cs hK=> ?_;refine U2 ?_;refine .bo fun b2=> ?_;refine .bo fun b3=> ?_;refine U8 ?_;refine .cl (fun H hs=> yD M H k.m0 k.m1) ?_;refine .al fun b5=> ?_;refine U7 ?_;refine .rt hK func89 results89 [_] ?_;exact fun H' hs=> ⟨hs.base,b2,b5,b3,rfl,hs.get (i:=2) rfl,hs.get (i:=0) rfl,hs.get (i:=1) rfl⟩
theorem DL(k:Lk)(code eb ec b2 b5 b3:Nat)(hk:∀z,z∈ [k.s0,k.r0,k.l0,k.m0,k.s1,k.r1,k.l1,k.m1]-> -1000000<=z/\z<=1000000)(hC:tR k code (bA code 7).length eb ec b2 b5 b3 H):
  uM M (v7 b2 b5 b3) (k.vO code) (fun s mb=> [s.val eb ec mb]) (fun _ mb=> [(mb,true,.map #[] 0)]) (fun _ _=> []) (tR k code (bA code 7).length eb ec b2 b5 b3) [] H:=fun l J D pE h0 hy H₀ LD=> by
 refine UC.of (first:= []) (captured:= [_,_,_]) aBY rfl ?_;simp only[List.mem_cons,List.not_mem_nil,or_false,forall_eq_or_imp,forall_eq] at hk;obtain⟨k1,k2,k3,k4,k5,k6,k7,k8⟩:=hk;obtain⟨c1,c2,c3⟩:=hC;refine cA.enter (vs:= [.func (.yield l) #[] #[],.pointer (some ⟨b2,0,none⟩),.pointer (some ⟨b5,0,none⟩),.pointer (some ⟨b3,0,none⟩)]) func121 rfl ntmps121 (Nat.le_of_ble_eq_true rfl) (LD) fun St c cs hK=> ?_;refine U2 ?_;refine .bo fun b4=> ?_;refine U6 ?_;refine .cl (fun H hs=> yD M H k.s0 k.s1) ?_;refine U3 ?_;have itS:=fun H (_:(fun _:View=> True) H)=> kJ M H k.s0 k.s1 oM oM;have itR:=fun H (_:(fun _:View=> True) H)=> kJ M H k.r0 k.r1 oM oM;have itL:=fun H (_:(fun _:View=> True) H)=> kJ M H k.l0 k.l1 oM oM;have itM:=fun H (_:(fun _:View=> True) H)=> kJ M H k.m0 k.m1 oM oM;refine Tc.m7 (A:= []) (ts:= [14]) (fun rest H₁=> J (k.kH code rest) H₁) (fun j H₁=> j=.ret/\D H₁) rfl rfl rfl rfl itS (fun _ _ _ h=> h) (fun _ _ _=> trivial) rfl (fun _ _=> rfl) h0 ?_ ?_ ?_
 ·rintro r s rest1 e l1 tmps1 asg1 bdy1 H₁ _ UN ⟨rfl,j1⟩ Q1 St1 cc1 cs1 mR q1 q1';obtain⟨c1,c2,c3⟩:=pE _ _ j1;refine U ?_;refine .al fun b6=> ?_;refine U2 ?_;refine Tc.beginRound (i:=1) rfl rfl rfl ?_;refine U6 ?_;refine .cl (fun H hs=> yD M H k.r0 k.r1) ?_;refine U3 ?_;refine Tc.TK (A:= []) (ts:= [20]) (i:=1) (fun rest H₁=> J (k.nF code s rest++k.kH code rest1) H₁) (fun j H₁=> j=.ret/\D H₁) rfl rfl rfl rfl rfl itR (fun _ _ _ h=> h) (fun _ _ _=> trivial) rfl (fun _ _=> rfl) j1 ?_ ?_ ?_
  ·rintro r' rest2 e l2 tmps2 asg2 bdy2 H₁ _ R2 ⟨rfl,j2⟩ Q2 St2 cc2 cs2 G5 q2 q2';obtain⟨c1,c2,c3⟩:=pE _ _ j2;refine U ?_;refine .al fun b7=> ?_;refine U2 ?_;refine Tc.beginRound (i:=1) rfl rfl rfl ?_;refine U7 ?_;refine .cl (fun H hs=> yD M H k.l0 k.l1) ?_;refine U3 ?_;refine Tc.TK (A:= []) (ts:= [27]) (i:=1) (fun rest H₁=> J (k.oF code s r' rest++(k.nF code s rest2++k.kH code rest1)) H₁) (fun j H₁=> j=.ret/\D H₁) rfl rfl rfl rfl rfl itL (fun _ _ _ h=> h) (fun _ _ _=> trivial) rfl (fun _ _=> rfl) (k.RQ ..▸j2) ?_ ?_ ?_
   ·rintro n' rest3 e l3 tmps3 asg3 bdy3 H₁ _ xU ⟨rfl,j3⟩ Q3 St3 cc3 cs3 hK3 q3 q3';obtain⟨c1,c2,c3⟩:=pE _ _ j3;refine U ?_;refine .al fun b8=> ?_;refine U2 ?_;refine Tc.beginRound (i:=1) rfl rfl rfl ?_;refine U7 ?_;refine Tc.TK (A:= []) (ts:= [30]) (i:=1) (fun rest H₁=> J (k.uK code s r' n' rest++(k.oF code s r' rest3++(k.nF code s rest2++k.kH code rest1))) H₁) (fun j H₁=> j=.ret/\D H₁) rfl rfl rfl rfl rfl itM (fun _ _ _ h=> h) (fun _ _ _=> trivial) rfl (fun _ _=> rfl) (k.SQ ..▸j3) ?_ ?_ ?_
    ·rintro f' rest4 e l4 tmps4 asg4 bdy4 H₁ _ iK ⟨rfl,j4⟩ Q4 St4 cc4 cs4 hK4 q4 q4';obtain⟨c1,c2,c3⟩:=pE _ _ j4;refine U3 ?_;refine Tc.beginRound (i:=0) rfl rfl rfl ?_;refine U3 ?_;refine .x (.ld 8) ?_;refine U6 ?_;refine .e (Or.makeMap rfl rfl dE (fun mb=> ?_));refine U ?_;refine To.KS 0 rfl (fun SN=> ?_);have uO:=hy (k.stg code s r' n' f') (k.uK code s r' n' rest4++(k.oF code s r' rest3++(k.nF code s rest2++k.kH code rest1))) mb H₁ _ (Lk.fN.2 ⟨s,r',n',f',fE.1 UN,fE.1 R2,fE.1 xU,fE.1 iK,rfl⟩) j4 ((eA.nil H₁).cons _ SN);refine To.sF rfl rfl rfl rfl rfl rfl dE (uO) (fun v H3 hv=> ?_);rcases hv with ⟨rfl,H4,h5,h6⟩|⟨rfl,h5⟩
     ·refine To.lower h5.base ?_;refine U5 ?_;refine Tc.FA hK4 (i:=0) rfl (.inl ⟨rfl,rfl⟩) (fun H' hs=> q4 H' _ _ hs ⟨rfl,h6⟩)
     ·refine U3 ?_;refine Tc.FA hK4 (i:=0) rfl (.inr (.inl ⟨_,rfl,rfl⟩)) (fun H' hs=> q4' H' _ _ _ hs ⟨rfl,rfl,h5⟩)
    ·rintro H₁ j4;refine U2 ?_;refine Tc.FA hK3 (i:=1) rfl (.inl ⟨rfl,rfl⟩) (fun H' hs=> q3 H' _ _ (hs.less sL) ⟨rfl,j4⟩)
    ·rintro j H₁ ⟨rfl,h5⟩;refine Tc.FA hK3 (i:=1) rfl (.inr (.inl ⟨_,rfl,rfl⟩)) (fun H' hs=> q3' H' _ _ _ (hs.less sL) ⟨rfl,rfl,h5⟩)
   ·rintro H₁ j3;refine U2 ?_;refine Tc.FA G5 (i:=1) rfl (.inl ⟨rfl,rfl⟩) (fun H' hs=> q2 H' _ _ (hs.less sL) ⟨rfl,j3⟩)
   ·rintro j H₁ ⟨rfl,h5⟩;refine Tc.FA G5 (i:=1) rfl (.inr (.inl ⟨_,rfl,rfl⟩)) (fun H' hs=> q2' H' _ _ _ (hs.less sL) ⟨rfl,rfl,h5⟩)
  ·rintro H₁ j2;refine U2 ?_;refine Tc.FA mR (i:=1) rfl (.inl ⟨rfl,rfl⟩) (fun H' hs=> q1 H' _ _ (hs.less sL) ⟨rfl,j2⟩)
  ·rintro j H₁ ⟨rfl,h5⟩;refine Tc.FA mR (i:=1) rfl (.inr (.inl ⟨_,rfl,rfl⟩)) (fun H' hs=> q1' H' _ _ _ (hs.less sL) ⟨rfl,rfl,h5⟩)
 ·rintro r H₁ j1;refine U ?_;refine Tc.aCV (E:=en) (i:=0) hK func121 results121 (vs:= []) rfl trivial ?_;exact fun H' hs=> ⟨H₁,hs.base,.inl j1⟩
 ·rintro r j H₁ ⟨rfl,h5⟩;refine Tc.TS (E:=en) (i:=0) hK func121 results121 (vs:= []) rfl trivial ?_;exact fun H' hs=> ⟨H₁,hs.base,.inr h5⟩
end
def bB.leaves(s:bB):Nat->Nat->Nat->List Int->List (Nat×List Int)
 | 0,_,v,mv=> [(v,mv)]
 | d+1,i,v,mv=> (s.opts (s.ps[i]?.getD 0) i).flatMap fun o=> s.leaves d (i+1) (vB v o.1.toNat) (mv++[o.2])
def bB.all(s:bB):List (Nat×List Int):=s.leaves s.ps.length 0 127 []
theorem AS {read mt after:Int}:∀ {f:Nat} {n:Int} {o:Int×Int},o∈gF read mt after f n->0<=o.1/\o.1<=7
 | 0,_,_,h=> by cases h
 | f + 1,n,o,h=> by
  unfold gF at h;split at h
  ·rcases List.mem_cons.1 h with rfl|h
   ·have:=IC read (after+n);exact⟨this.1,this.2.1⟩
   ·split at h
    ·cases h
    ·exact AS h
  ·cases h
theorem bB.IQ {s:bB}{p i:Nat}{o:Int×Int}(h:o∈s.opts p i):0<=o.1/\o.1<=7:=by
 unfold bB.opts at h;split at h
 ·simp at h;subst h;exact⟨by simp,by simp⟩
 ·exact AS h
theorem jP {read mt after:Int}:∀(f:Nat) (n:Int),(gF read mt after f n).length<=f
 | 0,_=> by simp[gF]
 | f + 1,n=> by
  unfold gF;split
  ·have:=jP (read:=read) (mt:=mt) (after:=after) f ((2*iB read (after+n)+1)*read+1-after);split <;> simp <;> omega
  ·simp
theorem bB.DS {s:bB}(GB:s.Ok)(p i:Nat):(s.opts p i).length<=3000:=by
 unfold bB.opts;split
 ·simp
 ·have h1:=jP (read:=s.read) (mt:=s.mt) (after:=s.after p i) (s.mt+1-s.mf).toNat s.mf;have h2:=GB.mf;have h3:=GB.mt;omega
theorem OI:∀v:Nat,v<128->∀f:Nat,f<8->vB v f<128:=by decide +kernel
def mN(n:Nat)(mv:List Int):List Value:=mA mv++List.replicate (7-n) (.int .i64 0)
theorem HQ {l:List (Int×Int)}{j:Nat}{o:Int×Int}(h:l[j]? =some o):((oB l).drop (j*2)).take 2= [.int .i64 o.1,.int .i64 o.2]:=by
 induction l generalizing j with
 | nil=> simp at h
 | cons x l ih=>
  rw[eJ];cases j with
  | zero=> simp at h;subst h;simp
  | succ j=>
   rw[show(j+1)*2=j*2+2 by omega,List.drop_append];simp only[List.length_cons,List.length_nil];rw[show j*2+2-(0+1+1)=j*2 by omega,List.drop_eq_nil_of_le (by simp)];exact ih (by simpa using h)
theorem T8 {H:View}{s:bB}{p i j:Nat}{v:Value}{o:Int×Int}(h:NA H 2 v (s.opts p i).length (oB (s.opts p i)))(hj:(s.opts p i)[j]? =some o):
  ∃b off c f cs e fz,v=.slice (some ⟨b,off,none⟩) (s.opts p i).length c/\H b=some (f,.cells ⟨cs⟩ e fz)/\SB true 2 cs (off+j*2)=some (.agg ⟨[.int .i64 o.1,.int .i64 o.2]⟩):=by
 have mB:=(List.getElem?_eq_some_iff.1 hj).1;obtain⟨_,h2,⟨_,c,_,h3⟩|⟨b,off,c,f,cs,e,fz,h3,h4,h5,h6⟩⟩:=h
 ·have:=fH (s.opts p i);rw[h3] at this;simp at this
  omega
 ·refine⟨b,off,c,f,cs,e,fz,h3,h4,?_⟩;have hl:=fH (s.opts p i);have hle:off+j*2+2<=cs.length:=by rw[hl] at h5;omega
  have:Nat.ble (off+j*2+2) cs.length=true:=Nat.ble_eq_true_of_le hle;unfold SB;simp only[this]
  congr 3
  have e1:=HQ hj;rw[<-h6,hl,List.drop_take,List.drop_drop] at e1;rw[<-e1,List.take_take]
  congr 1
  omega
theorem pW {s:bB}{p i mb:Nat}{Hj Hm H₁:View}{v:Value}{x:Bool×Obj}(hd:Dj Hj (Hm.put mb x))(h:XN s p i mb Hm (Hj.plus (Hm.put mb x)) v H₁):
  ∃Hm' es' cl',(Hj.plus (Hm'.put mb (true,.map es' cl'))).le H₁/\Dj Hj (Hm'.put mb (true,.map es' cl'))/\Hm.le Hm'/\Hm' mb=none/\NA Hm' 2 v (s.opts p i).length (oB (s.opts p i))/\QI Hm' s es'.toList:=by
 obtain⟨h1,Hm',es',cl',h2,h3,h4,h5,h6,h7,h8⟩:=h;have hjm:Hj mb=none:=hd mb x (View.qA ..);refine⟨Hm',es',cl',fun c y hc=> ?_,fun c y hc=> ?_,h4,h5,h6,h8⟩
 ·unfold View.plus at hc;split at hc
  ·rename_i z hz
   cases hc
   refine h1 c _ ?_ (xA hz);rintro rfl;rw[hjm] at hz;cases hz
  ·by_cases e:c=mb
   ·subst e;rw[View.qA] at hc;cases hc
    exact h7
   ·rw[View.kA _ _ e] at hc;exact h2 c y hc
 ·by_cases e:c=mb
  ·subst e;exact hjm
  ·rw[View.kA _ _ e] at hc;rcases h3 c y hc with h9|h9
   ·exact hd c y (by rw[View.kA _ _ e];exact h9)
   ·exact(GG h9).1
structure NSt where
 j:Nat
 Hj:View
 Hm:View
 es:Array MapEntry
 cl:Nat
 q:Nat
 z:List Value
section
variable(M:Md prog)(H:View)
def nxV(b2 b3 b4 b5:Nat):Value:=.func (.func 135) #[] #[.pointer (some ⟨b2,0,none⟩),.pointer (some ⟨b3,0,none⟩),.pointer (some ⟨b4,0,none⟩),.pointer (some ⟨b5,0,none⟩)]
def eP(s:bB)(l eb ec mb bm b2 b3 b4 b5 q:Nat)(c:List Value):Bl:=
 [(bm,true,.cells ⟨c⟩ 3 (0,0)),(b5,true,.cells ⟨[nxV b2 b3 b4 b5]⟩ 223 (0,0)),(b4,true,.cells ⟨[.slice (some ⟨bm,0,none⟩) q 7]⟩ 43 (0,0)),(b3,true,.cells ⟨[.func (.yield l) #[] #[]]⟩ 222 (0,0)),(b2,true,.cells ⟨(s.val eb ec mb).cells.toList⟩ 165 (0,0))]
theorem aAx(s:bB)(GB:s.Ok)(l eb ec mb bm b2 b3 b4 b5:Nat)(J:List (Nat×List Int)->View->Prop)(D:View->Prop)(pE:∀rest H',J rest H'->HE H' s eb)
  (hy:∀(x:Nat×List Int) rest (e:Nat) H' H'',x∈s.all->J (x::rest) H'->eA H' [(e,true,.cells ⟨mN s.ps.length x.2⟩ 3 (0,0))] H''->UC M (.func (.yield l) #[] #[]) [.int .u8 x.1,.slice (some ⟨e,0,none⟩) s.ps.length 7] H'' fun v H3=> (v=.bool true/\∃H₂,eA H₂ [(e,true,.cells ⟨mN s.ps.length x.2⟩ 3 (0,0))] H3/\J rest H₂)\/(v=.bool false/\D H3)):
  ∀ (d i v:Nat) (mv:List Int) (rest:List (Nat×List Int)),i+d=s.ps.length->mv.length=i->v<128->(∀y∈s.leaves d i v mv,y∈s.all)->∀(Hj Hm:View) (es:Array MapEntry) (cl:Nat) (z:List Value) (H:View),
   eA (Hj.plus (Hm.put mb (true,.map es cl))) (eP s l eb ec mb bm b2 b3 b4 b5 i z) H->Dj Hj (Hm.put mb (true,.map es cl))->Hm mb=none->QI Hm s es.toList->z.length=7->z.take i=mA mv->z.drop s.ps.length=List.replicate (7-s.ps.length) (.int .i64 0)->J (s.leaves d i v mv++rest) Hj-> 
   cA M 135 #[.int .i64 i,.int .u8 v,.pointer (some ⟨b2,0,none⟩),.pointer (some ⟨b3,0,none⟩),.pointer (some ⟨b4,0,none⟩),.pointer (some ⟨b5,0,none⟩)] H fun r H''=>
    (r=.bool true/\∃Hj' Hm' es' cl' q' c',q'<=7/\Hm.le Hm'/\eA (Hj'.plus (Hm'.put mb (true,.map es' cl'))) (eP s l eb ec mb bm b2 b3 b4 b5 q' c') H''/\Dj Hj' (Hm'.put mb (true,.map es' cl'))/\Hm' mb=none/\QI Hm' s es'.toList/\c'.length=7/\c'.take i=mA mv/\c'.drop s.ps.length=List.replicate (7-s.ps.length) (.int .i64 0)/\J rest Hj')\/ 
    (r=.bool false/\∃H₁,H₁.le H''/\D H₁):=by
 intro d;induction d with
 | zero=>
  intro i v mv rest hid J2 hv cE Hj Hm es cl z H hs RN SN hm hc7 hci X9 hJ;have sQ:i=s.ps.length:=by omega
  have h6:=GB.ps6;have hcp:z=mN s.ps.length mv:=by
   rw[<-List.take_append_drop s.ps.length z,X9,<-sQ,hci];rfl
  refine cA.enter (vs:= [.int .i64 i,.int .u8 v,.pointer (some ⟨b2,0,none⟩),.pointer (some ⟨b3,0,none⟩),.pointer (some ⟨b4,0,none⟩),.pointer (some ⟨b5,0,none⟩)]) func135 rfl ntmps135 (Nat.le_of_ble_eq_true rfl) (hs) fun St c cs hK=> ?_;refine X1 ?_;refine To.KS 0 rfl (fun cS=> ?_);obtain⟨hf1,hf2⟩:=GG cS;rw[<-HG];have hd2:Dj (Hj.put bm (true,.cells ⟨z⟩ 3 (0,0))) (Hm.put mb (true,.map es cl)):=RN.put hf2;have R2:eA Hj [(bm,true,.cells ⟨mN s.ps.length mv⟩ 3 (0,0))] (Hj.put bm (true,.cells ⟨z⟩ 3 (0,0))):=by
   rw[hcp];exact(eA.nil Hj).cons _ hf1
  have uO:=(hy (v,mv) rest bm Hj _ (cE _ (by simp[bB.leaves])) hJ R2).frame hd2;rw[<-sQ] at uO;refine To.sF rfl rfl rfl rfl rfl rfl dE (uO) (fun r H3 hv=> ?_);obtain⟨H4,rfl,hd4,⟨rfl,H2,iK,hJ2⟩|⟨rfl,hD⟩⟩:=hv
  ·have hle:(H2.put bm (true,.cells ⟨z⟩ 3 (0,0))).le H4:=fun b x hb=> by
    by_cases e:b=bm
    ·subst e;rw[View.qA] at hb;cases hb
     rw[hcp,<-sQ];exact iK.get (i:=0) rfl
    ·rw[View.kA _ _ e] at hb;exact iK.base b x hb
   have aS:H2 bm=none:=iK.fresh (i:=0) rfl;refine To.lower (T6 hle hd4) ?_;rw[HG];refine To.pop (by rw[KA aS];exact hf2) ?_;have hd5:Dj H2 (Hm.put mb (true,.map es cl)):=fun b x hb=> by
    cases h:H2 b with
    | none=> rfl
    | some y=>
     have h1:=hd4 b x hb;rw[iK.base b y h] at h1;cases h1
   refine U2 ?_;refine .rt hK func135 results135 [_] ?_;exact fun H' hs'=> .inl ⟨rfl,H2,Hm,es,cl,i,z,oM,View.le_refl _,hs',hd5,SN,hm,hc7,hci,X9,hJ2⟩
  ·refine U2 ?_;refine .rt hK func135 results135 [_] ?_;exact fun H' hs'=> .inr ⟨rfl,H4,fun b x hb=> hs'.base b x (xA hb),hD⟩
 | succ d ih=>
  intro i v mv rest hid J2 hv cE Hj Hm es cl z H hs RN SN hm hc7 hci X9 hJ;have sQ:i<s.ps.length:=by omega
  have h6:=GB.ps6;obtain⟨ef,ees,eet,eez,eU,WR⟩:=pE _ _ hJ;have hjm:Hj mb=none:=RN mb _ (View.qA ..);have hEb:(Hj.plus (Hm.put mb (true,.map es cl))) eb=some (ef,.cells ⟨ees⟩ eet eez):=xA eU;have hMb:(Hj.plus (Hm.put mb (true,.map es cl))) mb=some (true,.map es cl):=by rw[KA hjm,View.qA]
  have aEe:Hm.le (Hj.plus (Hm.put mb (true,.map es cl))):=fun b x hb=> by
   have gB:b≠mb:=by rintro rfl;rw[SN] at hb;cases hb
   have h1:(Hm.put mb (true,.map es cl)) b=some x:=by rw[View.kA _ _ gB];exact hb
   rw[KA (RN b x h1)];exact h1
  have f1:SB true 2 ees (0+(i:Int).toNat*2)=some (ZD (s.ps[i]?.getD 0) i):=by rw[show(i:Int).toNat=i by simp];exact WR i sQ
  refine cA.enter (vs:= [.int .i64 i,.int .u8 v,.pointer (some ⟨b2,0,none⟩),.pointer (some ⟨b3,0,none⟩),.pointer (some ⟨b4,0,none⟩),.pointer (some ⟨b5,0,none⟩)]) func135 rfl ntmps135 (Nat.le_of_ble_eq_true rfl) (hs) fun St c cs hK=> ?_;refine pH ?_;refine Tc.drC [] [7] [] mixed rfl ?_;refine .oo 0 ?_;refine .oo 1 ?_;refine .oo 2 ?_;refine .oo 3 ?_;refine .oo 4 ?_;refine .oo 5 ?_;refine .oo 6 ?_;refine Ta.tkP 9 kR rfl rfl rfl rfl dE rfl rfl (oA.take .mv) ?_;refine Ta.sF 7 kR rfl kR rfl rfl rfl rfl rfl rfl dE (UC.h (kP M _ s GB eb ec mb es cl (s.ps[i]?.getD 0) i ⟨ef,ees,eet,eez,hEb,WR⟩ hMb Hm hm aEe SN sQ rfl)) (fun w H1 hw=> ?_);obtain⟨Hm1,es1,cl1,FD,hd1,aCu,qZ,nG,E2⟩:=pW RN hw;refine Ta.lower FD ?_;have kW:=nG;obtain⟨⟨oa,oc,VN⟩, -, -⟩:=nG;subst VN;refine .ea 8 rfl (Or.O6 .ln rfl dE ⟨S3.off kR,?_⟩);refine .dn ?_;refine U ?_;have hJ1:J (((s.opts (s.ps[i]?.getD 0) i).drop 0).flatMap (fun o=> s.leaves d (i+1) (vB v o.1.toNat) (mv++[o.2]))++rest) Hj:=hJ;refine Tc.db (Tc.aP (σ:= { x:NSt//x.j<=(s.opts (s.ps[i]?.getD 0) i).length/\x.q<=7/\Dj x.Hj (x.Hm.put mb (true,.map x.es x.cl))/\Hm1.le x.Hm/\x.Hm mb=none/\QI x.Hm s x.es.toList/\x.z.length=7/\x.z.take i=mA mv/\x.z.drop s.ps.length=List.replicate (7-s.ps.length) (.int .i64 0)/\
    J (((s.opts (s.ps[i]?.getD 0) i).drop x.j).flatMap (fun o=> s.leaves d (i+1) (vB v o.1.toNat) (mv++[o.2]))++rest) x.Hj })
   (fun x=> (x.1.Hj.plus (x.1.Hm.put mb (true,.map x.1.es x.1.cl)),[(30,.int .i64 (x.1.j:Nat)),(29,.int .i64 ((s.opts (s.ps[i]?.getD 0) i).length:Nat)),(28,.slice oa (s.opts (s.ps[i]?.getD 0) i).length oc),(0,.int .i64 (i:Nat)),(1,.int .u8 (v:Nat)),(2,.pointer (some ⟨b2,0,none⟩)),(3,.pointer (some ⟨b3,0,none⟩)),(4,.pointer (some ⟨b4,0,none⟩)),(5,.pointer (some ⟨b5,0,none⟩))],
    eP s l eb ec mb bm b2 b3 b4 b5 x.1.q x.1.z)) (fun x=> (s.opts (s.ps[i]?.getD 0) i).length-x.1.j) ?_ ⟨⟨0,Hj,Hm1,es1,cl1,i,z⟩,Nat.zero_le _,(by show i<=7;omega),hd1,View.le_refl _,qZ,E2,hc7,hci,X9,hJ1⟩)
  rintro⟨⟨j,Hj,Hm',es,cl,q,z⟩,g1,g2,g3,g4,g5,g6,g7,g8,g9,g10⟩ lh;simp only at g1 g2 g3 g4 g5 g6 g7 g8 g9 g10;show Tc M St _ _ (Hj.plus (Hm'.put mb (true,.map es cl))) _ [(30,.int .i64 (j:Nat)),(29,.int .i64 ((s.opts (s.ps[i]?.getD 0) i).length:Nat)),(28,.slice oa (s.opts (s.ps[i]?.getD 0) i).length oc),(0,.int .i64 (i:Nat)),(1,.int .u8 (v:Nat)),(2,.pointer (some ⟨b2,0,none⟩)),(3,.pointer (some ⟨b3,0,none⟩)),(4,.pointer (some ⟨b4,0,none⟩)),(5,.pointer (some ⟨b5,0,none⟩))]
    (eP s l eb ec mb bm b2 b3 b4 b5 q z) _ _
  have hol:=bB.DS GB (s.ps[i]?.getD 0) i;by_cases cj:j=(s.opts (s.ps[i]?.getD 0) i).length
  ·have hJ2:J rest Hj:=by
    rw[cj,List.drop_length] at g10;exact g10
   refine eF ?_;refine .rt hK func135 results135 [_] ?_;exact fun H' hs'=> .inl ⟨rfl,Hj,Hm',es,cl,q,z,g2,View.le_trans aCu g4,hs',g3,g5,g6,g7,g8,g9,hJ2⟩
  ·have cj2:j<(s.opts (s.ps[i]?.getD 0) i).length:=by omega
   obtain⟨⟨o1,o2⟩,gW⟩:∃o,(s.opts (s.ps[i]?.getD 0) i)[j]? =some o:=⟨_,List.getElem?_eq_getElem cj2⟩
   have sU:=bB.IQ (List.mem_of_getElem? gW);simp only at sU;obtain⟨on,rfl⟩:=Int.eq_ofNat_of_zero_le sU.1;have hon:on<8:=by
    have h7:(on:Int)<=7:=sU.2;omega
   obtain⟨ob,off,oc',of,ocs,oe,ofz,ho1,K2,ho3⟩:=T8 (kW.mono g4) gW;cases ho1
   have aCy:ob≠mb:=by rintro rfl;rw[g5] at K2;cases K2
   have aCx:(Hm'.put mb (true,.map es cl)) ob=some (of,.cells ⟨ocs⟩ oe ofz):=by rw[View.kA _ _ aCy];exact K2
   have hob:(Hj.plus (Hm'.put mb (true,.map es cl))) ob=some (of,.cells ⟨ocs⟩ oe ofz):=by rw[KA (g3 _ _ aCx)];exact aCx
   have f2:SB true 2 ocs (off+(j:Int).toNat*2)=some (.agg ⟨[.int .i64 (on:Nat),.int .i64 o2]⟩):=by rw[show(j:Int).toNat=j by simp];exact ho3
   have f3:IE z (i*1) [.int .i64 o2]=z.set i (.int .i64 o2):=by rw[Nat.mul_one];exact nM _ _ _ oM
   have hJ3:J (s.leaves d (i+1) (vB v on) (mv++[o2])++(((s.opts (s.ps[i]?.getD 0) i).drop (j+1)).flatMap (fun o=> s.leaves d (i+1) (vB v o.1.toNat) (mv++[o.2]))++rest)) Hj:=by
    rw[List.drop_eq_getElem_cons cj2,List.flatMap_cons,List.append_assoc] at g10;have e1:(s.opts (s.ps[i]?.getD 0) i)[j]=((on:Int),o2):=Option.some.inj ((List.getElem?_eq_getElem cj2).symm.trans gW);rw[e1] at g10;exact g10
   have hz1:(z.set i (.int .i64 o2)).length=7:=by rw[List.length_set];exact g7
   have hz2:(z.set i (.int .i64 o2)).take (i+1)=mA (mv++[o2]):=by
    rw[List.take_succ_eq_append_getElem oM,List.take_set_of_le (Nat.le_refl i),g8];simp[mA]
   have hz3:(z.set i (.int .i64 o2)).drop s.ps.length=List.replicate (7-s.ps.length) (.int .i64 0):=by rw[List.drop_set_of_lt oM];exact g9
   refine aJ ?_;refine .al fun b10=> ?_;refine U3 ?_;refine Tc.drC [6,7] [] [1,3] mixed rfl ?_;refine .oo 0 ?_;refine .oo 1 ?_;refine Ta.tkC 2 kR rfl rfl dE rfl rfl (oA.take (oA.sliceTo (E:=en) rfl rfl rfl rfl rfl rfl oM oM)) ?_;refine .oo 3 ?_;refine .oo 4 ?_;refine .ea 5 rfl (.bs (zz:=fun bs=> ⟨S3.mk sL (.inr sL),?_⟩));refine .ea 6 rfl (Or.EY (E:=en) 2 rfl rfl rfl rfl rfl rfl rfl rfl rfl rfl rfl rfl rfl (fun H hs=> NA.of (hs.get (i:=0) rfl) (Nat.le_of_ble_eq_true rfl)) rfl oM (by show i*1+1<=z.length;omega) (List.cons_ne_nil _ _) rfl dE f3 ⟨S3.mk sL (.inl kR),?_⟩);refine .ea 7 rfl (.st 4 (zz:=⟨S3.mk sL (.inl kR),?_⟩));refine .dn ?_;refine U ?_;refine Tc.drC [] [7] [] mixed rfl ?_;refine .oo 0 ?_;refine .oo 1 ?_;refine .oo 2 ?_;refine .oo 3 ?_;refine .oo 4 ?_;refine .oo 5 ?_;refine Ta.tkC 6 kR rfl rfl dE rfl rfl (oA.tk fun H hs=> lT M H v on hv hon) ?_;refine Ta.lift (L₂:= [(bs,_,_),(b10,_,_)]) rfl (fun Hx hx=> ?_);refine Ta.sF 7 kR rfl kR rfl rfl rfl rfl rfl rfl dE (UC.of (first:= []) (captured:= [_,_,_,_]) Y7 rfl (ih (i+1) (vB v on) (mv++[o2]) _ oM (by simp[J2]) (OI v hv on hon) (fun y hy=> cE y (by
    unfold bB.leaves;exact List.mem_flatMap.2 ⟨_,List.mem_of_getElem? gW,hy⟩)) Hj Hm' es cl _ Hx hx g3 g5 g6 hz1 hz2 hz3 hJ3)) (fun r H3 hr=> ?_)
   rcases hr with ⟨rfl,Hj',Hm2,es',cl',q',z',g2',g4',hs',g3',g5',g6',g7',g8',g9',hJ4⟩|⟨rfl,H1,hle,hD⟩
   ·refine Ta.expand hs' ?_;refine .ea 8 rfl (Or.O6 .nt rfl dE ⟨S3.off kR,?_⟩);refine .dn ?_;refine U7 ?_;have hz4:z'.take i=mA mv:=by
     have h:=congrArg (List.take i) g8';rw[List.take_take,Nat.min_eq_left oM] at h;rw[h];unfold mA;rw[<-List.map_take,List.take_left' J2]
    have lh':=lh ⟨⟨j+1,Hj',Hm2,es',cl',q',z'⟩,by show j+1<=_;omega,g2',g3',View.le_trans g4 g4',g5',g6',g7',hz4,g9',hJ4⟩ (by show _-(j+1)<_-j;omega);exact Tc.db lh'
   ·refine Ta.lower hle ?_;refine .ea 8 rfl (Or.O6 .nt rfl dE ⟨S3.off kR,?_⟩);refine .dn ?_;refine U5 ?_;refine .rt hK func135 results135 [_] ?_;exact fun H' hs'=> .inr ⟨rfl,H1,hs'.base,hD⟩
theorem T1(s:bB)(GB:s.Ok)(eb ec mb:Nat):uM M (.func (.func 93) #[s.val eb ec mb] #[]) s.all (fun x vb=> [.int .u8 x.1,.slice (some ⟨vb,0,none⟩) s.ps.length 7]) (fun x vb=> [(vb,true,.cells ⟨mN s.ps.length x.2⟩ 3 (0,0))]) (fun x vb=> [(vb,true,.cells ⟨mN s.ps.length x.2⟩ 3 (0,0))])
  (fun H=> HE H s eb) [(mb,true,.map #[] 0)] H:=fun l J D pE h0 hy H' hs'=> by
 refine UC.of (first:= [_]) (captured:= []) aDP rfl ?_;refine cA.enter (vs:= [s.val eb ec mb,.func (.yield l) #[] #[]]) func93 rfl ntmps93 (Nat.le_of_ble_eq_true rfl) (hs') fun St c cs hK=> ?_;refine U2 ?_;refine .bo fun b2=> ?_;refine .bo fun b3=> ?_;refine U3 ?_;refine .e (Or.makeSlice (E:=en) (len:=0) (cap:=7) rfl rfl rfl rfl rfl rfl dE dE rfl rfl dE (fun bm=> ?_));refine .al fun b4=> ?_;refine U4 ?_;refine .al fun b5=> ?_;refine U8 ?_;refine To.lift (L₂:= []) rfl (fun Hx hx=> ?_);have hp:eA H (eP s l eb ec mb bm b2 b3 b4 b5 0 (List.replicate 7 (.int .i64 0))++[(mb,true,.map #[] 0)]) Hx:=hx.perm (by
  unfold eP;refine(List.Perm.trans ?_ (List.Perm.cons _ (List.Perm.swap _ _ _)));exact List.Perm.swap _ _ _)
 obtain⟨Hy,hy1,hy2⟩:=hp.mD;have hmH:H mb=none:=hy2.fresh (i:=0) rfl;have hle:(H.plus (View.put (fun _=> none) mb (true,.map #[] 0))).le Hy:=fun b x hb=> by
  unfold View.plus at hb;split at hb
  ·rename_i y hyb
   cases hb
   exact hy2.base _ _ hyb
  ·by_cases e:b=mb
   ·subst e;rw[View.qA] at hb;cases hb
    exact hy2.get (i:=0) rfl
   ·rw[View.kA _ _ e] at hb;cases hb
 have RN:Dj H (View.put (fun _=> none) mb (true,.map #[] 0)):=fun b x hb=> by
  by_cases e:b=mb
  ·subst e;exact hmH
  ·rw[View.kA _ _ e] at hb;cases hb
 have hn:=aAx M s GB l eb ec mb bm b2 b3 b4 b5 J D pE hy s.ps.length 0 127 [] [] oM rfl dE (fun y h=> h) H (fun _=> none) #[] 0 (List.replicate 7 (.int .i64 0)) Hx (hy1.lower hle) RN rfl (fun e he=> by cases he) (by simp) rfl (by rw[List.drop_replicate]) (by rw[List.append_nil];exact h0);refine To.sF rfl rfl rfl rfl rfl rfl dE (UC.of (first:= []) (captured:= [_,_,_,_]) Y7 rfl hn) (fun r H3 hr=> ?_);refine U ?_;refine .ov hK func93 results93 [] ?_;intro H4 iK;rcases hr with ⟨rfl,Hj',Hm2,es',cl',q',z',g2',g4',hs5,g3',g5',g6',g7',g8',g9',hJ4⟩|⟨rfl,H1,FD,hD⟩
 ·exact⟨Hj',fun b x hb=> iK.base _ _ (hs5.base _ _ (xA hb)),.inl hJ4⟩
 ·exact⟨H1,View.le_trans FD iK.base,.inr hD⟩
end
def rowOf(f:Nat->Bool):List Value:=(List.range 128).map fun i=> .bool (f i)
theorem NB(f:Nat->Bool):(rowOf f).length=128:=by simp[rowOf]
theorem VC(f:Nat->Bool){i:Nat}(h:i<128):(rowOf f)[i]? =some (.bool (f i)):=by simp[rowOf,h]
theorem US {f g:Nat->Bool}(h:∀i,i<128->f i=g i):rowOf f=rowOf g:=by
 unfold rowOf;exact List.map_congr_left fun i hi=> by rw[h i (by simpa using hi)]
theorem MX {f f':Nat->Bool}{w:Nat}{c:Bool}(hw:w<128)(h1:∀u,u<128->u≠w->f' u=f u)(h2:f' w=c):IE (rowOf f) (0+(w:Int).toNat*1) [.bool c]=rowOf f':=by
 rw[show 0+(w:Int).toNat*1=w by simp,nM _ _ _ (by rw[NB];exact hw)];apply List.ext_getElem?
 intro i;by_cases e:w=i
 ·subst e;rw[List.getElem?_set_self (by rw[NB];exact hw),VC f' hw,h2]
 ·rw[List.getElem?_set_ne e];by_cases hi:i<128
  ·rw[VC f hi,VC f' hi,h1 i hi (Ne.symm e)]
  ·rw[List.getElem?_eq_none (by rw[NB];omega),List.getElem?_eq_none (by rw[NB];omega)]
theorem wN(f:Nat->Bool):SB true 128 (rowOf f) 0=some (.agg ⟨rowOf f⟩):=by
 unfold SB;rw[show Nat.ble (0+128) (rowOf f).length=true by rw[NB];rfl];simp only[List.drop_zero];rw[List.take_of_length_le (by rw[NB];omega)]
theorem xN(f:Nat->Bool){c:List Value}(h:c.length=128):IE c 0 (rowOf f)=rowOf f:=by
 unfold IE;rw[NB,List.drop_of_length_le oM];simp
theorem dV {f:Nat->Bool}(h:∀i,i<128->f i=false):List.replicate 128 (Value.bool false)=rowOf f:=by
 apply List.ext_getElem?
 intro i;by_cases hi:i<128
 ·rw[VC f hi,h i hi,List.getElem?_replicate,if_pos hi]
 ·rw[List.getElem?_eq_none (by simp;omega),List.getElem?_eq_none (by rw[NB];omega)]
theorem VS:(List.replicate 128 (Value.bool false)).set 127 (.bool true)=rowOf (fun w=> w==127):=by kernel_rfl
theorem UK(f:Nat->Bool):(rowOf f).all single=true:=by
 rw[List.all_eq_true];intro x hx;obtain⟨i,_,rfl⟩:=List.mem_map.1 hx;rfl
theorem FJ(f:Nat->Bool):Nat.beq (rowOf f).length 128=true:=by rw[NB];rfl
def toV(v:Nat)(o:Int×Int):Nat:=vB v o.1.toNat
def KH(os:List (Int×Int))(R:Nat->Bool)(v j w:Nat):Bool:=((List.range v).any fun u=> (os.any fun o=> toV u o==w)&&R u)||(((os.take j).any fun o=> toV v o==w)&&R v)
def bB.pA(s:bB):Nat->Nat->Bool
 | 0,w=> w==127
 | k+1,w=> KH (s.opts (s.ps[k]?.getD 0) k) (s.pA k) 128 0 w
def bB.reach(s:bB):Nat->Bool:=s.pA s.ps.length
theorem B0(os:List (Int×Int))(R:Nat->Bool)(w:Nat):KH os R 0 0 w=false:=by simp[KH]
theorem j0 {os:List (Int×Int)}{R:Nat->Bool}{v j:Nat}{o:Int×Int}(h:os[j]? =some o)(w:Nat):KH os R v (j+1) w=(KH os R v j w||((toV v o==w)&&R v)):=by
 have mB:=(List.getElem?_eq_some_iff.1 h).1;have e:os.take (j+1)=os.take j++[o]:=by
  rw[List.take_succ_eq_append_getElem mB]
  congr 2
  exact Option.some.inj ((List.getElem?_eq_getElem mB).symm.trans h)
 unfold KH;rw[e,List.any_append];simp only[List.any_cons,List.any_nil,Bool.or_false,Bool.or_assoc,Bool.and_or_distrib_right]
theorem ZZ(os:List (Int×Int))(R:Nat->Bool)(v w:Nat):KH os R v os.length w=KH os R (v+1) 0 w:=by
 unfold KH;rw[List.take_length,List.range_succ,List.any_append];simp
theorem V0 {H:View}{mb:Nat}{x:Bool×Obj}(hM:H mb=some x):((H.BA mb).plus (View.put (fun _=> none) mb x)).le H/\Dj (H.BA mb) (View.put (fun _=> none) mb x):=by
 refine⟨fun b y hb=> ?_,fun b y hb=> ?_⟩
 ·unfold View.plus at hb;split at hb
  ·rename_i z hz
   cases hb
   by_cases e:b=mb
   ·subst e;simp[View.BA] at hz
   ·rw[OA e] at hz;exact hz
  ·by_cases e:b=mb
   ·subst e;rw[View.qA] at hb;cases hb
    exact hM
   ·rw[View.kA _ _ e] at hb;cases hb
 ·by_cases e:b=mb
  ·subst e;simp[View.BA]
  ·rw[View.kA _ _ e] at hb;cases hb
theorem J0 {Hj Hm:View}{mb:Nat}{x:Bool×Obj}(hd:Dj Hj (Hm.put mb x)):(Hj.plus (Hm.put mb x)) mb=some x:=by rw[KA (hd mb x (View.qA ..)),View.qA]
theorem HS {Hj Hm:View}{mb:Nat}{x:Bool×Obj}(hd:Dj Hj (Hm.put mb x))(SN:Hm mb=none):Hm.le (Hj.plus (Hm.put mb x)):=fun b y hb=> by
 have gB:b≠mb:=by rintro rfl;rw[SN] at hb;cases hb
 have h1:(Hm.put mb x) b=some y:=by rw[View.kA _ _ gB];exact hb
 rw[KA (hd b y h1)];exact h1
structure MSt where
 k:Nat
 Hm:View
 es:Array MapEntry
 cl:Nat
 row:List Value
section
variable(M:Md prog)(H:View)
theorem o7(s:bB)(GB:s.Ok)(eb ec mb:Nat)(hE:HE H s eb)(hM:H mb=some (true,.map #[] 0)):
  cA M 90 #[s.val eb ec mb] H (fun v H'=> (∀b x,b≠mb->H b=some x->H' b=some x)/\v=.agg ⟨rowOf s.reach⟩):=by
 obtain⟨ef,ees,eet,eez,eU,WR⟩:=hE;have gB:eb≠mb:=by rintro rfl;rw[eU] at hM;cases hM
 obtain⟨kB,RN⟩:=V0 hM;have hEj:(H.BA mb) eb=some (ef,.cells ⟨ees⟩ eet eez):=by rw[OA gB];exact eU
 have h6:=GB.ps6;refine .en func90 ntmps90 fun St c cs hK=> ?_;refine Tc.lower kB ?_;refine U2 ?_;refine .bo fun b1=> ?_;refine .al fun b2=> ?_;refine U4 ?_;refine .al fun b3=> ?_;have g0:(List.replicate 128 (Value.bool false)).set 127 (.bool true)=rowOf (s.pA 0):=VS;refine .e (Or.storeT (E:=en) 0 rfl rfl rfl rfl rfl rfl rfl rfl rfl rfl g0 ?_);refine eF ?_;have rO:=GB.places;refine Tc.db (Tc.aP (σ:= { x:MSt//x.k<=s.ps.length/\Dj (H.BA mb) (x.Hm.put mb (true,.map x.es x.cl))/\x.Hm mb=none/\QI x.Hm s x.es.toList/\x.row=rowOf (s.pA x.k) })
  (fun x=> ((H.BA mb).plus (x.1.Hm.put mb (true,.map x.1.es x.1.cl)),[(17,.int .i64 (x.1.k:Nat)),(16,.int .i64 s.ps.length),(15,.slice (some ⟨eb,0,none⟩) s.ps.length ec),(1,.pointer (some ⟨b1,0,none⟩)),(2,.pointer (some ⟨b2,0,none⟩)),(3,.pointer (some ⟨b3,0,none⟩))],
   [(b3,true,.cells ⟨x.1.row⟩ 167 (0,0)),(b2,true,.cells ⟨List.replicate 128 (.bool false)⟩ 167 (0,0)),(b1,true,.cells ⟨(s.val eb ec mb).cells.toList⟩ 165 (0,0))])) (fun x=> s.ps.length-x.1.k) ?_ ⟨⟨0,fun _=> none,#[],0,rowOf (s.pA 0)⟩,Nat.zero_le _,RN,rfl,(fun e he=> by cases he),rfl⟩)
 rintro⟨⟨k,Hm,es,cl,row⟩,g1,g2,g3,g4,g5⟩ lh;simp only at g1 g2 g3 g4 g5;subst g5;show Tc M St _ _ ((H.BA mb).plus (Hm.put mb (true,.map es cl))) _ [(17,.int .i64 (k:Nat)),(16,.int .i64 s.ps.length),(15,.slice (some ⟨eb,0,none⟩) s.ps.length ec),(1,.pointer (some ⟨b1,0,none⟩)),(2,.pointer (some ⟨b2,0,none⟩)),(3,.pointer (some ⟨b3,0,none⟩))]
   [(b3,true,.cells ⟨rowOf (s.pA k)⟩ 167 (0,0)),(b2,true,.cells ⟨List.replicate 128 (.bool false)⟩ 167 (0,0)),(b1,true,.cells ⟨(s.val eb ec mb).cells.toList⟩ 165 (0,0))] _ _
 have ld0:=wN (s.pA k);by_cases ck:k=s.ps.length
 ·have st0:IE (List.replicate 128 (Value.bool false)) 0 (rowOf (s.pA k))=rowOf (s.pA k):=xN _ (by simp);have ln0:=FJ (s.pA k);have on0:=UK (s.pA k);refine U9 ?_;refine .x (oA.load (E:=en) 0 rfl rfl rfl rfl ld0) ?_;refine .e (Or.storeT (E:=en) 1 rfl rfl rfl rfl rfl ln0 rfl (by decide +kernel) on0 rfl st0 ?_);refine U ?_;refine Tc.aAG (E:=en) hK func90 results90 (vs:= [.agg ⟨rowOf (s.pA k)⟩]) ⟨⟨1,_,_,_,_,_,_,_,rfl,rfl,rfl,ld0⟩,trivial⟩ ?_;exact fun H' hs=> ⟨fun b x hb hx=> hs.base _ _ (xA (by rw[OA hb];exact hx)),by rw[ck];rfl⟩
 ·have ck2:k<s.ps.length:=by omega
  obtain⟨os,O8⟩:∃os,os=s.opts (s.ps[k]?.getD 0) k:=⟨_,rfl⟩
  have f1:SB true 2 ees (0+(k:Int).toNat*2)=some (ZD (s.ps[k]?.getD 0) k):=by rw[show(k:Int).toNat=k by simp];exact WR k ck2
  have hE3:((H.BA mb).plus (Hm.put mb (true,.map es cl))) eb=some (ef,.cells ⟨ees⟩ eet eez):=xA hEj;refine aJ ?_;refine .al fun b5=> ?_;refine U4 ?_;refine .al fun b6=> ?_;refine U4 ?_;refine .x (oA.load (E:=en) 2 rfl rfl rfl rfl ld0) ?_;refine U3 ?_;refine Tc.db (Tc.aP (σ:= { x:MSt//x.k<=128/\Dj (H.BA mb) (x.Hm.put mb (true,.map x.es x.cl))/\x.Hm mb=none/\QI x.Hm s x.es.toList/\x.row=rowOf (KH os (s.pA k) x.k 0) })
   (fun x=> ((H.BA mb).plus (x.1.Hm.put mb (true,.map x.1.es x.1.cl)),[(22,.int .i64 (x.1.k:Nat)),(21,.agg ⟨rowOf (s.pA k)⟩),(17,.int .i64 (k:Nat)),(16,.int .i64 s.ps.length),(15,.slice (some ⟨eb,0,none⟩) s.ps.length ec),(1,.pointer (some ⟨b1,0,none⟩)),(2,.pointer (some ⟨b2,0,none⟩)),(3,.pointer (some ⟨b3,0,none⟩)),(5,.pointer (some ⟨b5,0,none⟩)),(6,.pointer (some ⟨b6,0,none⟩))],
    [(b6,true,.cells ⟨x.1.row⟩ 167 (0,0)),(b5,true,.cells ⟨[.int .i64 ((s.ps[k]?.getD 0:Nat):Int),.int .i64 (k:Nat)]⟩ 108 (0,0)),(b3,true,.cells ⟨rowOf (s.pA k)⟩ 167 (0,0)),(b2,true,.cells ⟨List.replicate 128 (.bool false)⟩ 167 (0,0)),(b1,true,.cells ⟨(s.val eb ec mb).cells.toList⟩ 165 (0,0))])) (fun x=> 128-x.1.k) ?_ ⟨⟨0,Hm,es,cl,List.replicate 128 (.bool false)⟩,Nat.zero_le _,g2,g3,g4,dV (fun i _=> B0 ..)⟩)
  rintro⟨⟨v,Hm,es,cl,row⟩,v1,v2,v3,v4,v5⟩ mh;simp only at v1 v2 v3 v4 v5;subst v5;show Tc M St _ _ ((H.BA mb).plus (Hm.put mb (true,.map es cl))) _ [(22,.int .i64 (v:Nat)),(21,.agg ⟨rowOf (s.pA k)⟩),(17,.int .i64 (k:Nat)),(16,.int .i64 s.ps.length),(15,.slice (some ⟨eb,0,none⟩) s.ps.length ec),(1,.pointer (some ⟨b1,0,none⟩)),(2,.pointer (some ⟨b2,0,none⟩)),(3,.pointer (some ⟨b3,0,none⟩)),(5,.pointer (some ⟨b5,0,none⟩)),(6,.pointer (some ⟨b6,0,none⟩))]
    [(b6,true,.cells ⟨rowOf (KH os (s.pA k) v 0)⟩ 167 (0,0)),(b5,true,.cells ⟨[.int .i64 ((s.ps[k]?.getD 0:Nat):Int),.int .i64 (k:Nat)]⟩ 108 (0,0)),(b3,true,.cells ⟨rowOf (s.pA k)⟩ 167 (0,0)),(b2,true,.cells ⟨List.replicate 128 (.bool false)⟩ 167 (0,0)),(b1,true,.cells ⟨(s.val eb ec mb).cells.toList⟩ 165 (0,0))] _ _
  by_cases cv:v=128
  ·subst cv;have ld1:=wN (KH os (s.pA k) 128 0);have st1:IE (rowOf (s.pA k)) 0 (rowOf (KH os (s.pA k) 128 0))=rowOf (KH os (s.pA k) 128 0):=xN _ (NB _);have ln1:=FJ (KH os (s.pA k) 128 0);have on1:=UK (KH os (s.pA k) 128 0);have ble:Nat.ble (0+128) (rowOf (s.pA k)).length=true:=by rw[NB];rfl
   have e1:rowOf (KH os (s.pA k) 128 0)=rowOf (s.pA (k+1)):=by subst O8;rfl
   refine U8 ?_;refine .x (oA.load (E:=en) 0 rfl rfl rfl rfl ld1) ?_;refine .e (Or.storeT (E:=en) 2 rfl rfl rfl rfl rfl ln1 rfl ble on1 rfl st1 ?_);refine U6 ?_;have lh':=lh ⟨⟨k+1,Hm,es,cl,rowOf (KH os (s.pA k) 128 0)⟩,by show k+1<=_;omega,v2,v3,v4,e1⟩ (by show _-(k+1)<_-k;omega);exact Tc.db lh'
  ·have cv2:v<128:=by omega
   have hEb:HE ((H.BA mb).plus (Hm.put mb (true,.map es cl))) s eb:=⟨ef,ees,eet,eez,xA hEj,WR⟩
   have f2:SB false 1 (rowOf (s.pA k)) ((v:Int).toNat*1)=some (.bool (s.pA k v)):=by
    show(rowOf (s.pA k))[(v:Int).toNat*1]? =_;rw[show(v:Int).toNat*1=v by simp];exact VC _ cv2
   refine JL ?_;refine .x (oA.index (E:=en) rfl rfl rfl rfl rfl rfl oM oM f2) ?_;refine U7 ?_;refine To.sF rfl rfl rfl rfl rfl rfl dE (UC.h (kP M _ s GB eb ec mb es cl (s.ps[k]?.getD 0) k hEb (J0 v2) Hm v4 (HS v2 v3) v3 ck2 rfl)) (fun w H1 hw=> ?_);obtain⟨Hm1,es1,cl1,FD,hd1,aCu,qZ,nG,E2⟩:=pW v2 hw;refine To.lower FD ?_;have kW:=nG;obtain⟨⟨oa,oc,VN⟩, -, -⟩:=nG;subst VN;refine U4 ?_;have hol:=bB.DS GB (s.ps[k]?.getD 0) k;rw[<-O8] at hol kW;rw[<-O8];refine Tc.db (Tc.vA (σ:= { x:Nat×List Value//x.1<=os.length/\x.2=rowOf (KH os (s.pA k) v x.1) })
    (fun x=> ([(30,.int .i64 (x.1.1:Nat)),(29,.int .i64 (os.length:Nat)),(28,.slice oa os.length oc),(7,.int .i64 (v:Nat)),(8,.bool (s.pA k v)),(22,.int .i64 (v:Nat)),(21,.agg ⟨rowOf (s.pA k)⟩),(17,.int .i64 (k:Nat)),(16,.int .i64 s.ps.length),(15,.slice (some ⟨eb,0,none⟩) s.ps.length ec),(1,.pointer (some ⟨b1,0,none⟩)),(2,.pointer (some ⟨b2,0,none⟩)),(3,.pointer (some ⟨b3,0,none⟩)),(5,.pointer (some ⟨b5,0,none⟩)),(6,.pointer (some ⟨b6,0,none⟩))],
     [(b6,true,.cells ⟨x.1.2⟩ 167 (0,0)),(b5,true,.cells ⟨[.int .i64 ((s.ps[k]?.getD 0:Nat):Int),.int .i64 (k:Nat)]⟩ 108 (0,0)),(b3,true,.cells ⟨rowOf (s.pA k)⟩ 167 (0,0)),(b2,true,.cells ⟨List.replicate 128 (.bool false)⟩ 167 (0,0)),(b1,true,.cells ⟨(s.val eb ec mb).cells.toList⟩ 165 (0,0))])) (fun x=> os.length-x.1.1) ?_ ⟨(0,rowOf (KH os (s.pA k) v 0)),Nat.zero_le _,rfl⟩)
   rintro⟨⟨j,row⟩,j1,j2⟩ jh;simp only at j1 j2;subst j2;show Tc M St _ _ ((H.BA mb).plus (Hm1.put mb (true,.map es1 cl1))) _ [(30,.int .i64 (j:Nat)),(29,.int .i64 (os.length:Nat)),(28,.slice oa os.length oc),(7,.int .i64 (v:Nat)),(8,.bool (s.pA k v)),(22,.int .i64 (v:Nat)),(21,.agg ⟨rowOf (s.pA k)⟩),(17,.int .i64 (k:Nat)),(16,.int .i64 s.ps.length),(15,.slice (some ⟨eb,0,none⟩) s.ps.length ec),(1,.pointer (some ⟨b1,0,none⟩)),(2,.pointer (some ⟨b2,0,none⟩)),(3,.pointer (some ⟨b3,0,none⟩)),(5,.pointer (some ⟨b5,0,none⟩)),(6,.pointer (some ⟨b6,0,none⟩))]
     [(b6,true,.cells ⟨rowOf (KH os (s.pA k) v j)⟩ 167 (0,0)),(b5,true,.cells ⟨[.int .i64 ((s.ps[k]?.getD 0:Nat):Int),.int .i64 (k:Nat)]⟩ 108 (0,0)),(b3,true,.cells ⟨rowOf (s.pA k)⟩ 167 (0,0)),(b2,true,.cells ⟨List.replicate 128 (.bool false)⟩ 167 (0,0)),(b1,true,.cells ⟨(s.val eb ec mb).cells.toList⟩ 165 (0,0))] _ _
   by_cases cj:j=os.length
   ·have e2:rowOf (KH os (s.pA k) v j)=rowOf (KH os (s.pA k) (v+1) 0):=by rw[cj];exact US fun w _=> ZZ ..
    refine JL ?_;have mh':=mh ⟨⟨v+1,Hm1,es1,cl1,rowOf (KH os (s.pA k) v j)⟩,by show v+1<=_;omega,hd1,qZ,E2,e2⟩ (by show _-(v+1)<_-v;omega);exact Tc.db mh'
   ·have cj2:j<os.length:=by omega
    obtain⟨⟨o1,o2⟩,gW⟩:∃o,os[j]? =some o:=⟨_,List.getElem?_eq_getElem cj2⟩
    have nX:=gW;rw[O8] at nX;have sU:=bB.IQ (List.mem_of_getElem? nX);simp only at sU;obtain⟨on,rfl⟩:=Int.eq_ofNat_of_zero_le sU.1;have hon:on<8:=by
     have h7:(on:Int)<=7:=sU.2;omega
    obtain⟨ob,off,oc',of,ocs,oe,ofz,ho1,K2,ho3⟩:=T8 (O8▸kW) nX;rw[<-O8] at ho1;cases ho1
    have aCy:ob≠mb:=by rintro rfl;rw[qZ] at K2;cases K2
    have hob:((H.BA mb).plus (Hm1.put mb (true,.map es1 cl1))) ob=some (of,.cells ⟨ocs⟩ oe ofz):=HS hd1 qZ _ _ K2;have f3:SB true 2 ocs (off+(j:Int).toNat*2)=some (.agg ⟨[.int .i64 (on:Nat),.int .i64 o2]⟩):=by rw[show(j:Int).toNat=j by simp];exact ho3
    have aCJ:=OI v cv2 on hon;have SO:=j0 (R:=s.pA k) (v:=v) gW;have f4:SB false 1 (rowOf (KH os (s.pA k) v j)) (0+((vB v on:Nat):Int).toNat*1)=some (.bool (KH os (s.pA k) v j (vB v on))):=by
     show(rowOf (KH os (s.pA k) v j))[0+((vB v on:Nat):Int).toNat*1]? =_;rw[show 0+((vB v on:Nat):Int).toNat*1=vB v on by simp];exact VC _ aCJ
    have f5:IE (rowOf (KH os (s.pA k) v j)) (0+((vB v on:Nat):Int).toNat*1) [.bool (KH os (s.pA k) v j (vB v on)||s.pA k v)]=rowOf (KH os (s.pA k) v (j+1)):=by
     refine MX aCJ (fun u _ hu=> ?_) ?_
     ·rw[SO];have:(toV v ((on:Int),o2)==u)=false:=by simpa [toV] using Ne.symm hu
      rw[this];simp
     ·rw[SO];simp[toV]
    have f6:Nat.ble (0+((vB v on:Nat):Int).toNat*1+1) (rowOf (KH os (s.pA k) v j)).length=true:=by
     rw[NB];exact Nat.ble_eq_true_of_le (by simp;omega)
    have f7:IntKind.u8.wrap (v:Int)=(v:Int):=by
     have:∀v:Nat,v<128->IntKind.u8.wrap (v:Int)=(v:Int):=by decide +kernel
     exact this v cv2
    refine aJ ?_;refine .al fun b10=> ?_;refine U8 ?_;refine .cl (fun H hs=> lT M H v on cv2 hon) ?_;refine U2 ?_;cases hnv:KH os (s.pA k) v j (vB v on) with
    | true=>
     rw[hnv] at f4 f5;refine bJ ?_;have jh':=jh ⟨(j+1,rowOf (KH os (s.pA k) v (j+1))),by show j+1<=_;omega,rfl⟩ (by show _-(j+1)<_-j;omega);exact Tc.db jh'
    | false=>
     rw[hnv] at f4 f5;refine bJ ?_;have jh':=jh ⟨(j+1,rowOf (KH os (s.pA k) v (j+1))),by show j+1<=_;omega,rfl⟩ (by show _-(j+1)<_-j;omega);exact Tc.db jh'
end
end Go.Proofs.YtgkmnalhddmclaaGreatDoor
