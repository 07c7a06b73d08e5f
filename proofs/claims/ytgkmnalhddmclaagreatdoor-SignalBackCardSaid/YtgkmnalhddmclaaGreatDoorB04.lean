/-
 Texts of the proofs over baudot/dial.
-/
import Derived.Test.YtgkmnalhddmclaaGreatDoorB03
import Derived.Laws.Strings
namespace Go.RL
open Go.Conc Go.Proofs Go.Proofs.YtgkmnalhddmclaaGreatDoor
set_option maxRecDepth 10000
section
variable {M:Md Tryz.prog}{St:View->Goroutine->Prop}{n:Nat}{b:FB}{H₀:View}{cs:List Frame}{R:Rg}{L:Bl}{ds:List Deferred}{k:List Item}{dl:List (Option Tmp)}{l:List Oper}{o:Oper}{d:Nat}{v:Value}{K:Rg->Bl->Prop}{main:Bool}{sh:K0}{J:Goroutine->Prop}
theorem mA.mv {x:Operand}(gA:o.op=.move x:=by exact rfl)(hx:BA R x=some v:=by exact rfl):mA Tryz.prog n H₀ R L o (v):=
 mA.move gA hx
theorem mA.sg {x:Operand}(gA:o.op=.assign x:=by exact rfl)(hx:BA R x=some v:=by exact rfl):mA Tryz.prog n H₀ R L o (v):=
 mA.assign gA hx
theorem mA.pk {c x y:Operand}{t:Bool}(gA:o.op=.pick c x y:=by exact rfl)(hc:BA R c=some (.bool t):=by exact rfl)(hx:(match t with|true=> BA R x|false=> BA R y)=some v:=by exact rfl):mA Tryz.prog n H₀ R L o (v):=
 mA.pick gA hc hx
theorem mA.et {x:Operand}{i:Nat}{vs:Array Value}(gA:o.op=.extract x i:=by exact rfl)(hx:BA R x=some (.tuple vs):=by exact rfl)(hv:vs[i]? =some v:=by exact rfl):mA Tryz.prog n H₀ R L o (v):=
 mA.extract gA hx hv
theorem mA.nk {x:Operand}{a:Addr}(gA:o.op=.nilCheck x:=by exact rfl)(hx:BA R x=some (.pointer (some a)):=by exact rfl):mA Tryz.prog n H₀ R L o (.pointer (some a)):=
 mA.nilCheck gA hx
theorem mA.fa {s:TypeId}{x:Operand}{fi o':Nat}{r:uA}{blk off:Nat}(gA:o.op=.fieldAddr s x fi:=by exact rfl)(hx:BA R x=some (.pointer (some ⟨blk,off,none⟩)):=by exact rfl)(ht:en.ty s=some r:=by exact rfl)(ho:r.kW[fi]? =some o':=by exact rfl):mA Tryz.prog n H₀ R L o (.pointer (some ⟨blk,off+o',none⟩)):=
 mA.fieldAddr (E:=en) gA hx ht ho
theorem mA.mf {fn:Fn}{fs cp:Array Operand}{vf vc:List Value}(gA:o.op=.makeFunc fn fs cp:=by exact rfl)(h1:ZD R fs.toList=some vf:=by exact rfl)(h2:ZD R cp.toList=some vc:=by exact rfl):mA Tryz.prog n H₀ R L o (.func fn vf.toArray vc.toArray):=
 mA.makeFunc gA h1 h2
theorem mA.bu {t:TypeId}{ps:Array (Nat×Operand)}{parts:List (Nat×Value)}{l:List Value}(gA:o.op=.build t ps:=by exact rfl)(TW:uN R ps.toList=some parts:=by exact rfl)(hv:TO en t parts=some l:=by exact rfl):mA Tryz.prog n H₀ R L o (.agg ⟨l⟩):=
 mA.build (E:=en) gA TW hv
theorem mA.cv {t u:TypeId}{x:Operand}{ik jk:IntKind}{p z:Int}{r r':uA}(gA:o.op=.convert t u x:=by exact rfl)(hx:BA R x=some (.int ik p):=by exact rfl)(ht:en.ty t=some r:=by exact rfl)(hr:r.ds=.int ik:=by exact rfl)(LZ:en.ty u=some r':=by exact rfl)(rF:r'.ds=.int jk:=by exact rfl)(hz:jk.wrap p=z:=by first|assumption|exact rfl):mA Tryz.prog n H₀ R L o (.int jk z):=
 mA.P5 (E:=en) gA hx ht hr LZ rF hz
theorem mA.fd {t ft:TypeId}{x:Operand}{fi off sz:Nat}{r rf:uA}{c:List Value}{fs:List (TypeId×Nat×Nat)}(gA:o.op=.field t x fi:=by exact rfl)(hx:BA R x=some (.agg ⟨c⟩):=by exact rfl)(ht:en.ty t=some r:=by exact rfl)(yB:r.ds=.struct fs:=by exact rfl)(hf:fs[fi]? =some (ft,off,sz):=by exact rfl)(htf:en.ty ft=some rf:=by exact rfl)(hv:YB rf.agg rf.size c off=some v:=by exact rfl):mA Tryz.prog n H₀ R L o v:=
 mA.field (E:=en) gA hx ht yB hf htf hv
theorem mA.ld(i:Nat){t:TypeId}{x:Operand}{r:uA}{blk off:Nat}{f:Bool}{c:List Value}{e:TypeId}{fz:Nat×Nat}(gA:o.op=.load t x:=by exact rfl)(hx:BA R x=some (.pointer (some ⟨blk,off,none⟩)):=by exact rfl)(hi:L[i]? =some (blk,f,.cells ⟨c⟩ e fz):=by exact rfl)(ht:en.ty t=some r:=by exact rfl)(hv:YB r.agg r.size c off=some v:=by first|exact rfl|assumption):mA Tryz.prog n H₀ R L o (v):=
 mA.load (E:=en) i gA hx hi ht hv
theorem mA.l0 {t:TypeId}{x:Operand}{r:uA}{blk off:Nat}{f:Bool}{c:List Value}{e:TypeId}{fz:Nat×Nat}(gA:o.op=.load t x:=by exact rfl)(hx:BA R x=some (.pointer (some ⟨blk,off,none⟩)):=by exact rfl)(hi:H₀ blk=some (f,.cells ⟨c⟩ e fz):=by assumption)(ht:en.ty t=some r:=by first|exact rfl|assumption)(hv:YB r.agg r.size c off=some v:=by first|exact rfl|assumption):mA Tryz.prog n H₀ R L o (v):=
 mA.M3 (E:=en) gA hx hi ht hv
theorem mA.ia {t:TypeId}{x y:Operand}{r re:uA}{et:TypeId}{blk off sz len cap:Nat}{ik:IntKind}{j:Int}(gA:o.op=.indexAddr t x y:=by exact rfl)(hx:BA R x=some (.slice (some ⟨blk,off,none⟩) len cap):=by exact rfl)(hy:BA R y=some (.int ik j):=by exact rfl)(ht:en.ty t=some r:=by exact rfl)(he:r.elem=some (none,et):=by exact rfl)(FC:en.ty et=some re:=by exact rfl)(HD:re.size=sz:=by exact rfl)(h0:0<=j:=by omega)(h1:j<len:=by omega):mA Tryz.prog n H₀ R L o (.pointer (some ⟨blk,off+j.toNat*sz,none⟩)):=
 mA.indexAddr (E:=en) gA hx hy ht he FC HD h0 h1
theorem mA.ib {t:TypeId}{x y:Operand}{r re:uA}{et:TypeId}{blk off sz len:Nat}{ik:IntKind}{j:Int}(gA:o.op=.indexAddr t x y:=by exact rfl)(hx:BA R x=some (.pointer (some ⟨blk,off,none⟩)):=by exact rfl)(hy:BA R y=some (.int ik j):=by exact rfl)(ht:en.ty t=some r:=by exact rfl)(he:r.elem=some (some len,et):=by exact rfl)(FC:en.ty et=some re:=by exact rfl)(HD:re.size=sz:=by exact rfl)(h0:0<=j:=by omega)(h1:j<len:=by omega):mA Tryz.prog n H₀ R L o (.pointer (some ⟨blk,off+j.toNat*sz,none⟩)):=
 mA.mT (E:=en) gA hx hy ht he FC HD h0 h1
theorem mA.ix {t:TypeId}{x y:Operand}{r re:uA}{et:TypeId}{len:Nat}{ik:IntKind}{j:Int}{c:List Value}(gA:o.op=.index t x y:=by exact rfl)(hx:BA R x=some (.agg ⟨c⟩):=by exact rfl)(hy:BA R y=some (.int ik j):=by exact rfl)(ht:en.ty t=some r:=by exact rfl)(he:r.elem=some (some len,et):=by exact rfl)(FC:en.ty et=some re:=by exact rfl)(h0:0<=j:=by omega)(h1:j<len:=by omega)(hv:YB re.agg re.size c (j.toNat*re.size)=some v:=by exact rfl):mA Tryz.prog n H₀ R L o (v):=
 mA.index (E:=en) gA hx hy ht he FC h0 h1 hv
theorem mA.it {op:BinOp}{t u:TypeId}{x y:Operand}{ik:IntKind}{p q:Int}(gA:o.op=.binOp op t x y u:=by exact rfl)(hx:BA R x=some (.int ik p):=by exact rfl)(hy:BA R y=some (.int ik q):=by exact rfl)(zz:iA op ik p q=some v):mA Tryz.prog n H₀ R L o (v):=
 mA.int gA hx hy zz
theorem mA.sf {op:BinOp}{t u:TypeId}{x y:Operand}{ik jk:IntKind}{p q:Int}(gA:o.op=.binOp op t x y u:=by exact rfl)(hx:BA R x=some (.int ik p):=by exact rfl)(hy:BA R y=some (.int jk q):=by exact rfl)(hq:0<=q:=by omega)(hv:qC op ik p q=some v:=by first|assumption|exact rfl):mA Tryz.prog n H₀ R L o (v):=
 mA.shift gA hx hy hq hv
theorem mA.nt {t:TypeId}{x:Operand}{p:Bool}(gA:o.op=.unOp .not t x:=by exact rfl)(hx:BA R x=some (.bool p):=by exact rfl):mA Tryz.prog n H₀ R L o (.bool (!p)):=
 mA.not gA hx
theorem mA.ng {t:TypeId}{x:Operand}{p z:Int}(gA:o.op=.unOp .neg t x:=by exact rfl)(hx:BA R x=some (.int .i64 p):=by exact rfl)(h1: -9223372036854775808<= -p:=by omega)(h2: -p<9223372036854775808:=by omega)(hz: -p=z:=by exact rfl):mA Tryz.prog n H₀ R L o (.int .i64 z):=
 mA.neg gA hx h1 h2 hz
theorem mA.ln {t:TypeId}{x:Operand}{a:Option Addr}{p q:Nat}{cl:Go.Call}{e:TypeId}{r:uA}(gA:o.op=.call cl:=by exact rfl)(HB:cl.callee=.builtin .len:=by exact rfl)(KI:cl.argTypes=#[t]:=by exact rfl)(wJ:cl.args=#[x]:=by exact rfl)(hx:BA R x=some (.slice a p q):=by exact rfl)(ht:en.ty t=some r:=by exact rfl)(he:r.elem=some (none,e):=by exact rfl):mA Tryz.prog n H₀ R L o (.int .i64 (p:Int)):=
 mA.len (E:=en) gA HB KI wJ hx ht he
theorem mA.eb {t u:TypeId}{x y:Operand}{r:uA}{p q:Bool}(gA:o.op=.binOp .eql t x y u:=by exact rfl)(hx:BA R x=some (.bool p):=by exact rfl)(hy:BA R y=some (.bool q):=by exact rfl)(ht:en.ty t=some r:=by exact rfl)(yB:r.ds=.bool:=by exact rfl):mA Tryz.prog n H₀ R L o (.bool (p==q)):=
 mA.eqB (E:=en) gA hx hy ht yB
theorem mA.nb {t u:TypeId}{x y:Operand}{r:uA}{p q:Bool}(gA:o.op=.binOp .neq t x y u:=by exact rfl)(hx:BA R x=some (.bool p):=by exact rfl)(hy:BA R y=some (.bool q):=by exact rfl)(ht:en.ty t=some r:=by exact rfl)(yB:r.ds=.bool:=by exact rfl):mA Tryz.prog n H₀ R L o (.bool (!(p==q))):=
 mA.neB (E:=en) gA hx hy ht yB
theorem TB.mv {x:Operand}(gA:o.op=.move x:=by exact rfl)(hx:BA R x=some v:=by exact rfl):TB Tryz.prog sh n R o v:=
 TB.move gA hx
theorem TB.sg {x:Operand}(gA:o.op=.assign x:=by exact rfl)(hx:BA R x=some v:=by exact rfl):TB Tryz.prog sh n R o v:=
 TB.assign gA hx
theorem TB.pk {c x y:Operand}{u:Bool}(gA:o.op=.pick c x y:=by exact rfl)(hc:BA R c=some (.bool u):=by exact rfl)(hx:(match u with|true=> BA R x|false=> BA R y)=some v:=by exact rfl):TB Tryz.prog sh n R o v:=
 TB.pick gA hc hx
theorem TB.nk {x:Operand}{a:Addr}(gA:o.op=.nilCheck x:=by exact rfl)(hx:BA R x=some (.pointer (some a)):=by exact rfl):TB Tryz.prog sh n R o (.pointer (some a)):=
 TB.nilCheck gA hx
theorem TB.nt {u:TypeId}{x:Operand}{p:Bool}(gA:o.op=.unOp .not u x:=by exact rfl)(hx:BA R x=some (.bool p):=by exact rfl):TB Tryz.prog sh n R o (.bool (!p)):=
 TB.not gA hx
theorem TB.it {op:BinOp}{u u':TypeId}{x y:Operand}{ik:IntKind}{p q:Int}(gA:o.op=.binOp op u x y u':=by exact rfl)(hx:BA R x=some (.int ik p):=by exact rfl)(hy:BA R y=some (.int ik q):=by exact rfl)(zz:iA op ik p q=some v):TB Tryz.prog sh n R o v:=
 TB.int gA hx hy zz
theorem TB.fa {s:TypeId}{x:Operand}{fi o':Nat}{blk off:Nat}(gA:o.op=.fieldAddr s x fi:=by exact rfl)(hx:BA R x=some (.pointer (some ⟨blk,off,none⟩)):=by exact rfl)(zz:sG Tryz.prog s fi=some o'):TB Tryz.prog sh n R o (.pointer (some ⟨blk,off+o',none⟩)):=
 TB.field gA hx zz
theorem Or.bx {e:TypeId}{x:Operand}(gA:o.op=.box e x:=by exact rfl)(hd:o.dst=some d:=by exact rfl)(hn:d<n:=by decide)(hx:BA R x=some v:=by exact rfl)(zz:∀blk,K ((d,.pointer (some ⟨blk,0,none⟩))::R) ((blk,true,.cells ⟨v.cells.toList⟩ e (0,0))::L)):Or M n H₀ R L o K:=
 Or.box gA hd hn hx zz
theorem Or.al {e:TypeId}{r:uA}(gA:o.op=.alloc e:=by exact rfl)(ht:en.ty e=some r:=by exact rfl)(hd:o.dst=some d:=by exact rfl)(hn:d<n:=by decide)(zz:∀blk,K ((d,.pointer (some ⟨blk,0,none⟩))::R) ((blk,true,.cells ⟨r.zero.cells.toList⟩ e (0,0))::L)):Or M n H₀ R L o K:=
 Or.alloc (E:=en) gA ht hd hn zz
theorem Or.bs {t e:TypeId}{len:Nat}{ps:Array (Nat×Operand)}{parts:List (Nat×Value)}{r re:uA}{l:List Value}(gA:o.op=.buildSlice t len ps:=by exact rfl)(TW:uN R ps.toList=some parts:=by exact rfl)(ht:en.ty t=some r:=by exact rfl)(yB:r.ds=.slice e:=by exact rfl)(FC:en.ty e=some re:=by exact rfl)(HD:Nat.ble (len*re.size) 16777216=true:=by exact rfl)(hv:CK (fun i=> some (i*re.size,re.size)) (RB re.zero.cells.toList (len*re.size)) parts=some l:=by exact rfl)(hd:o.dst=some d:=by exact rfl)(hn:d<n:=by decide)(zz:∀blk,K ((d,.slice (some ⟨blk,0,none⟩) len len)::R) ((blk,true,.cells ⟨l⟩ e (0,0))::L)):Or M n H₀ R L o K:=
 Or.buildSlice (E:=en) gA TW ht yB FC HD hv hd hn zz
theorem Or.st(i:Nat){t:TypeId}{x y:Operand}{r:uA}{blk off:Nat}{c c':List Value}{e:TypeId}(gA:o.op=.store t x y:=by exact rfl)(hx:BA R x=some (.pointer (some ⟨blk,off,none⟩)):=by exact rfl)(hy:BA R y=some v:=by exact rfl)(hi:L[i]? =some (blk,true,.cells ⟨c⟩ e (0,0)):=by exact rfl)(ht:en.ty t=some r:=by exact rfl)(hz:Nat.beq v.cells.toList.length r.size=true:=by exact rfl)(h0:Nat.beq r.size 0=false:=by exact rfl)(hl:Nat.ble (off+r.size) c.length=true:=by first|exact rfl|assumption)(hs:v.cells.toList.all single=true:=by exact rfl)(hd:o.dst=none:=by exact rfl)(hc:zE c off v.cells.toList=c':=by first|assumption|exact rfl)(zz:K R (L.set i (blk,true,.cells ⟨c'⟩ e (0,0)))):Or M n H₀ R L o K:=
 Or.storeT (E:=en) i gA hx hy hi ht hz h0 hl hs hd hc zz
theorem To.x(h:mA Tryz.prog n H₀ R L o v)(kk:To M St n b H₀ cs dl ((d,v)::R) L ds l k)(h1:HA dl R o=some true:=by exact rfl)(h2:wA o.op=false:=by exact rfl)(h3:o.dst=some d:=by exact rfl)(h4:d<n:=by decide):To M St n b H₀ cs dl R L ds (o::l) k:=To.op h1 h2 (Or.A4 h h3 h4 kk)
theorem To.e(h:Or M n H₀ R L o fun R' L'=> To M St n b H₀ cs dl R' L' ds l k)(h1:HA dl R o=some true:=by exact rfl)(h2:wA o.op=false:=by exact rfl):To M St n b H₀ cs dl R L ds (o::l) k:=To.op h1 h2 h
theorem To.c {cl:Go.Call}{x:Operand}{fv:Value}{az:List Value}(gA:o.op=.call cl)(HB:cl.callee=.value x)(hx:BA R x=some fv)(has:ZD R cl.args.toList=some az)(hc:∀H,eA H₀ L H->TC M fv az H fun u H'=> H.le H'/\u=v)(kk:To M St n b H₀ cs dl ((d,v)::R) L ds l k)(h1:HA dl R o=some true:=by exact rfl)(h2:wA o.op=false:=by exact rfl)(h3:o.dst=some d:=by exact rfl)(h4:d<n:=by decide):To M St n b H₀ cs dl R L ds (o::l) k:=To.op h1 h2 (Or.ofT (mA.UM gA HB hx has hc) h3 h4 kk)
theorem To.sk(kk:To M St n b H₀ cs dl ((d,undef)::R) L ds l k)(h3:o.dst=some d:=by exact rfl)(h4:d<n:=by decide)(h1:HA dl R o=some false:=by exact rfl):To M St n b H₀ cs dl R L ds (o::l) k:=To.AL h3 h4 h1 kk
theorem Tc.tt {c:Operand}{x y:Code}(hc:BA R c=some (.bool true))(h:Tc M St n b H₀ cs R L ds (.code x::k)):Tc M St n b H₀ cs R L ds (.code (.cond c x y)::k):=Tc.cond (t:=true) hc (fun _=> h) (fun h=> nomatch h)
theorem Tc.ff {c:Operand}{x y:Code}(hc:BA R c=some (.bool false))(h:Tc M St n b H₀ cs R L ds (.code y::k)):Tc M St n b H₀ cs R L ds (.code (.cond c x y)::k):=Tc.cond (t:=false) hc (fun h=> nomatch h) (fun _=> h)
theorem TC.f {g:FuncId}{az:List Value}{as':Array Value}{H:View}{Q:Value->View->Prop}(hg:qA Tryz.prog g=true)(PA:([]++az++[]).toArray=as')(h:dA M g as' H Q):TC M (.func (.func g) #[] #[]) az H Q:=TC.of (first:= []) (captured:= []) hg PA h
theorem So.x {dl:List (Option Tmp)}{l:List Oper}(hp:TB Tryz.prog sh n R o v)(h:So J n b cs dl ((d,v)::R) ds l k)(hc:Cl Tryz.prog main sh J:=by first|exact Jm.cl|exact Jw.jG rfl|exact Jw.iG|exact Jq.cl|exact hc)(EF:o.dst=some d:=by exact rfl)(hn:Nat.blt d n=true:=by exact rfl)(hw:HA dl R o=some true:=by exact rfl)(eI:wA o.op=false:=by exact rfl):So J n b cs dl R ds (o::l) k:=So.opD hc EF hn hw eI hp h
theorem So.sk {dl:List (Option Tmp)}{l:List Oper}(h:So J n b cs dl ((d,undef)::R) ds l k)(hc:Cl Tryz.prog main sh J:=by first|exact Jm.cl|exact Jw.jG rfl|exact Jw.iG|exact Jq.cl|exact hc)(EF:o.dst=some d:=by exact rfl)(hn:Nat.blt d n=true:=by exact rfl)(hw:HA dl R o=some false:=by exact rfl):So J n b cs dl R ds (o::l) k:=So.bZ hc EF hn hw h
theorem Sc.rg {id:Nat}{ops:Array Oper}{dl:List (Option Tmp)}{l:List Oper}(hl:ops.toList=l)(NU:l.map (fun o:Oper=> o.dst)=dl)(h:So J n b cs dl R ds l k)(hc:Cl Tryz.prog main sh J:=by first|exact Jm.cl|exact Jw.jG rfl|exact Jw.iG|exact Jq.cl|exact hc):Sc J n b cs R ds (.code (.region id ops false)::k):=Sc.region hc hl NU h
theorem So.dn {dl:List (Option Tmp)}(h:Sc J n b cs R ds k)(hc:Cl Tryz.prog main sh J:=by first|exact Jm.cl|exact Jw.jG rfl|exact Jw.iG|exact Jq.cl|exact hc):So J n b cs dl R ds [] k:=So.done hc h
theorem Sc.sq {x y:Code}(h:Sc J n b cs R ds (.code x:: .code y::k))(hc:Cl Tryz.prog main sh J:=by first|exact Jm.cl|exact Jw.jG rfl|exact Jw.iG|exact Jq.cl|exact hc):Sc J n b cs R ds (.code (.seq x y)::k):=Sc.seq hc h
theorem Sc.sp(h:Sc J n b cs R ds k)(hc:Cl Tryz.prog main sh J:=by first|exact Jm.cl|exact Jw.jG rfl|exact Jw.iG|exact Jq.cl|exact hc):Sc J n b cs R ds (.code .skip::k):=Sc.skip hc h
theorem Sc.bl {id:Nat}{c:Code}(h:Sc J n b cs R ds (.code c:: .inBlock id::k))(hc:Cl Tryz.prog main sh J:=by first|exact Jm.cl|exact Jw.jG rfl|exact Jw.iG|exact Jq.cl|exact hc):Sc J n b cs R ds (.code (.block id c)::k):=Sc.block hc h
theorem Sc.ib {id:Nat}(h:Sc J n b cs R ds k)(hc:Cl Tryz.prog main sh J:=by first|exact Jm.cl|exact Jw.jG rfl|exact Jw.iG|exact Jq.cl|exact hc):Sc J n b cs R ds (.inBlock id::k):=Sc.inBlock hc h
theorem Sc.xt {id:Nat}{k':List Item}(he:exitTo id k=some k')(h:Sc J n b cs R ds k')(hc:Cl Tryz.prog main sh J:=by first|exact Jm.cl|exact Jw.jG rfl|exact Jw.iG|exact Jq.cl|exact hc):Sc J n b cs R ds (.code (.exit id)::k):=Sc.exit hc he h
theorem Sc.tt {c:Operand}{x y:Code}(hx:BA R c=some (.bool true))(h:Sc J n b cs R ds (.code x::k))(hc:Cl Tryz.prog main sh J:=by first|exact Jm.cl|exact Jw.jG rfl|exact Jw.iG|exact Jq.cl|exact hc):Sc J n b cs R ds (.code (.cond c x y)::k):=Sc.cond hc (t:=true) hx (fun _=> h) (fun h=> nomatch h)
theorem Sc.ff {c:Operand}{x y:Code}(hx:BA R c=some (.bool false))(h:Sc J n b cs R ds (.code y::k))(hc:Cl Tryz.prog main sh J:=by first|exact Jm.cl|exact Jw.jG rfl|exact Jw.iG|exact Jq.cl|exact hc):Sc J n b cs R ds (.code (.cond c x y)::k):=Sc.cond hc (t:=false) hx (fun h=> nomatch h) (fun _=> h)
end
section
variable {M:Md Tryz.prog}{St:View->Goroutine->Prop}{n:Nat}{b:FB}{H₀:View}{cs:List Frame}{R:Rg}{L L₁:Bl}{ds:List Deferred}{k:List Item}{md:Region.Mode}{ops:Array Oper}{fuel:Nat}{listed:Array Bool}{B:List Nat}{Ls:Bl}{o:Oper}{d:Nat}{v:Value}
theorem Ta.q {H₁:View}(i:Nat)(hi:ops[i]? =some o)(hv:mA Tryz.prog n H₀ R L o v)(h:Ta M St n b H₁ cs (S2 H₀ B Ls L) md ops fuel (listed.setIfInBounds i true) ((d,v)::R) L₁ ds k)(hc:uD md ops B listed i=true:=by kernel_rfl)(hd:o.dst=some d:=by exact rfl)(hn:d<n:=by decide)(SB:wA o.op=false:=by exact rfl)(hw:HA (ops.toList.map (fun o:Oper=> o.dst)) R o=some true:=by exact rfl):
 Ta M St n b H₁ cs (S2 H₀ B Ls L) md ops (fuel+1) listed R L₁ ds k:=Ta.tk i hc hi hd hn SB hw (mA.take hv) h
end
end Go.RL
namespace Go.RL
open Go.Conc
abbrev nA(l:List UInt8):Value:=.string ⟨⟨l⟩⟩
theorem CS(l:List UInt8):(ByteArray.mk ⟨l⟩).toList=l:=ByteArray.toList_eq _
theorem DS(l:List UInt8):(ByteArray.mk ⟨l⟩).size=l.length:=rfl
theorem FV(l m:List UInt8):(ByteArray.mk ⟨l⟩++ByteArray.mk ⟨m⟩)=ByteArray.mk ⟨l++m⟩:=by
 apply ByteArray.ext
 apply Array.ext'
 simp
theorem LN(l:List UInt8)(a b:Nat):(ByteArray.mk ⟨l⟩).extract a b=ByteArray.mk ⟨(l.drop a).take (b-a)⟩:=by
 apply ByteArray.ext
 apply Array.ext'
 simp[List.take_drop]
section
variable {P:Program}{E:Env P}{M:Md P}{n:Nat}{H₀:View}{R:Rg}{L L':Bl}{K:Rg->Bl->Prop}{o:Oper}{d:Nat}{v:Value}
theorem mA.aDg {t:TypeId}{x:Operand}{l:List UInt8}{cl:Go.Call}{r:uA}(gA:o.op=.call cl)(HB:cl.callee=.builtin .len)(KI:cl.argTypes=#[t])(wJ:cl.args=#[x])
  (hx:BA R x=some (nA l)) (ht:E.ty t=some r) (yB:r.ds=.str):mA P n H₀ R L o (.int .i64 (l.length:Nat)):=fun H tmps _ hr=> by
 unfold execOp;rw[gA];simp only[resolve,HB,KI,wJ];have hm:Array.map (vB tmps) #[x]=#[nA l]:=by simp[hr.ev hx]
 rw[hm];refine aA (Builtin.len_ #[t] o.type #[nA l]) _ (aA (underlying t) _ (cA (rG ((E.ok _ _ ht).ds.trans yB)) ?_));exact⟨rfl,rfl⟩
def cF(op:BinOp)(l m:List UInt8):Option Value:=
 match op with
 | .add=> if l.length+m.length<=1000000000 then some (nA (l++m)) else none
 | .eql=> some (.bool (l==m))
 | .neq=> some (.bool (!(l==m)))
 | .lss=> some (.bool (Op.bytesLess l m))
 | .leq=> some (.bool (Op.bytesLess l m||l==m))
 | .gtr=> some (.bool (!(Op.bytesLess l m||l==m)))
 | .geq=> some (.bool (!(Op.bytesLess l m)))
 | _=> none
theorem fQ {op:BinOp}{l m:List UInt8}{H:View}{Q:Value->View->Prop}(h:cF op l m=some v)(hq:Q v H):vA P (Op.stringOp op ⟨⟨l⟩⟩ ⟨⟨m⟩⟩) H Q:=by
 unfold Op.stringOp;simp only[CS,DS,FV];cases op <;> simp only[cF,Option.some.injEq,reduceCtorEq] at h <;> try (subst h;exact hq)
 split at h
 ·cases h
  have e:¬((l.length+m.length:Nat):Int)>IntKind.i64.max:=by
   have:IntKind.i64.max=9223372036854775807:=by decide
   omega
  rw[if_neg e];exact hq
 ·cases h
theorem mA.cF {op:BinOp}{t u:TypeId}{x y:Operand}{l m:List UInt8}(gA:o.op=.binOp op t x y u)(hx:BA R x=some (nA l))(hy:BA R y=some (nA m))(hz:RL.cF op l m=some v):mA P n H₀ R L o v:=fun H tmps _ hr=> by
 unfold execOp;rw[gA];simp only[hr.ev hx,hr.ev hy];refine aA _ _ ?_;have hg:vA P (eqGuard op t x y (nA l) (nA m)) H fun _ H'=> vA P (binOp op t (nA l) (nA m)) H' fun a H'=> vA P (Sem.pure (Next.value a)) H' fun nx H'=> nx=.value v/\H'=H:=by
  have h1:vA P (binOp op t (nA l) (nA m)) H fun a H'=> vA P (Sem.pure (Next.value a)) H' fun nx H'=> nx=.value v/\H'=H:=by
   have h2:=fQ (P:=P) (H:=H) (Q:=fun a H'=> vA P (Sem.pure (Next.value a)) H' fun nx H'=> nx=.value v/\H'=H) hz ⟨rfl,rfl⟩;cases op <;> first|exact h2|(simp[RL.cF] at hz)
  cases op <;> exact h1
 exact aA _ _ hg
theorem mA.yE {t:TypeId}{x:Operand}{lo hi:Option Operand}{a b:Int}{l:List UInt8}{r:uA}(gA:o.op=.slice t x lo hi none)(hx:BA R x=some (nA l))(ht:E.ty t=some r)(yB:r.ds=.str)
  (TU:bound R lo 0=some a) (XS:bound R hi l.length=some b) (h0:0<=a) (h1:a<=b) (h2:b<=l.length):mA P n H₀ R L o (nA ((l.drop a.toNat).take (b.toNat-a.toNat))):=fun H tmps _ hr=> by
 unfold execOp;rw[gA];simp only[hr.ev hx];refine aA (Instr.sliceAt t _ _ _ _) _ ?_;refine aA (underlying t) _ (cA (rG ((E.ok _ _ ht).ds.trans yB)) ?_);refine aA (underlying t) _ (cA (rG ((E.ok _ _ ht).ds.trans yB)) ?_);show vA P ((Instr.sliceBounds false l.length l.length (lo.map (vB tmps)) (hi.map (vB tmps)) none).bind fun z=> Sem.pure (Value.string ((ByteArray.mk ⟨l⟩).extract z.1 z.2.1))) H _;refine aA _ _ (BE hr TU XS h0 h1 h2 ?_);show Next.value (.string ((ByteArray.mk ⟨l⟩).extract a.toNat b.toNat))=_/\_;rw[LN];exact⟨rfl,rfl⟩
theorem TM {l m:List UInt8}(h:l.length+m.length<=1000000000):RL.cF .add l m=some (nA (l++m)):=if_pos h
theorem ZJ(l:List UInt8)(i:Nat):(ByteArray.mk ⟨l⟩)[i]? =l[i]? :=by
 by_cases h:i<l.length
 ·rw[List.getElem?_eq_getElem h];exact getElem?_pos (ByteArray.mk ⟨l⟩) i h
 ·rw[List.getElem?_eq_none oM];exact getElem?_neg (ByteArray.mk ⟨l⟩) i h
theorem mA.gM {t:TypeId}{x y:Operand}{ik:IntKind}{j:Int}{l:List UInt8}{c:UInt8}{r:uA}(gA:o.op=.index t x y)(hx:BA R x=some (nA l))(hy:BA R y=some (.int ik j))(ht:E.ty t=some r)(yB:r.ds=.str)(h0:0<=j)(hb:l[j.toNat]? =some c):
 mA P n H₀ R L o (.int .u8 (c.toNat:Nat)):=mA.AJ gA hx hy (rG ((E.ok _ _ ht).ds.trans yB)) h0 (by rw[ZJ];exact hb)
theorem mA.min {t u:TypeId}{x y:Operand}{k:IntKind}{p q z:Int}{cl:Go.Call}(gA:o.op=.call cl)(HB:cl.callee=.builtin .min)(KI:cl.argTypes=#[t,u])(wJ:cl.args=#[x,y])(hx:BA R x=some (.int k p))(hy:BA R y=some (.int k q))(hz:(if q<p then q else p)=z):
  mA P n H₀ R L o (.int k z):=fun H tmps _ hr=> by
 unfold execOp;rw[gA];simp only[resolve,HB,KI,wJ];have hm:Array.map (vB tmps) #[x,y]=#[.int k p,.int k q]:=by simp[hr.ev hx,hr.ev hy]
 rw[hm,<-hz];exact⟨rfl,rfl⟩
end
end Go.RL
namespace Go.RL
open Go.Conc Go.Proofs Go.Proofs.YtgkmnalhddmclaaGreatDoor
set_option maxRecDepth 10000
section
variable {M:Md Tryz.prog}{St:View->Goroutine->Prop}{n:Nat}{b:FB}{H₀:View}{cs:List Frame}{R:Rg}{L:Bl}{ds:List Deferred}{k:List Item}{dl:List (Option Tmp)}{l:List Oper}{o:Oper}{d:Nat}{v:Value}{main:Bool}{sh:K0}{J:Goroutine->Prop}
theorem To.m {x:Operand}(kk:To M St n b H₀ cs dl ((d,v)::R) L ds l k)(gA:o.op=.move x:=by exact rfl)(hx:BA R x=some v:=by exact rfl)(h1:HA dl R o=some true:=by exact rfl)(h2:wA o.op=false:=by exact rfl)(h3:o.dst=some d:=by exact rfl)(h4:d<n:=by decide):To M St n b H₀ cs dl R L ds (o::l) k:=To.op h1 h2 (Or.A4 (mA.move gA hx) h3 h4 kk)
theorem To.g {x:Operand}(kk:To M St n b H₀ cs dl ((d,v)::R) L ds l k)(gA:o.op=.assign x:=by exact rfl)(hx:BA R x=some v:=by exact rfl)(h1:HA dl R o=some true:=by exact rfl)(h2:wA o.op=false:=by exact rfl)(h3:o.dst=some d:=by exact rfl)(h4:d<n:=by decide):To M St n b H₀ cs dl R L ds (o::l) k:=To.op h1 h2 (Or.A4 (mA.assign gA hx) h3 h4 kk)
theorem To.i {op:BinOp}{t u:TypeId}{x y:Operand}{ik:IntKind}{p q:Int}(kk:To M St n b H₀ cs dl ((d,v)::R) L ds l k)(gA:o.op=.binOp op t x y u:=by exact rfl)(hx:BA R x=some (.int ik p):=by exact rfl)(hy:BA R y=some (.int ik q):=by exact rfl)(h1:HA dl R o=some true:=by exact rfl)(h2:wA o.op=false:=by exact rfl)(h3:o.dst=some d:=by exact rfl)(h4:d<n:=by decide)(z:iA op ik p q=some v):To M St n b H₀ cs dl R L ds (o::l) k:=To.op h1 h2 (Or.A4 (mA.int gA hx hy z) h3 h4 kk)
theorem To.j {op:BinOp}{t u:TypeId}{x y:Operand}{ik:IntKind}{p q:Int}(kk:To M St n b H₀ cs dl ((d,v)::R) L ds l k)(gA:o.op=.binOp op t x y u:=by exact rfl)(hx:BA R x=some (.int ik p):=by exact rfl)(hy:BA R y=some (.int ik q):=by exact rfl)(z:iA op ik p q=some v:=by first|exact YD (by omega) (by omega)|exact UP (by omega) (by omega)|exact dO (by omega)|exact CJ (by omega)|exact kC (by omega)|exact NC (by omega)|exact aD (by omega)|exact XB (by omega)|exact OQ (by omega)|exact NQ (by omega)|exact pI (by omega)|exact jH (by omega)|exact oH (by omega)|exact NG (by omega))(h1:HA dl R o=some true:=by exact rfl)(h2:wA o.op=false:=by exact rfl)(h3:o.dst=some d:=by exact rfl)(h4:d<n:=by decide):To M St n b H₀ cs dl R L ds (o::l) k:=To.op h1 h2 (Or.A4 (mA.int gA hx hy z) h3 h4 kk)
theorem To.mm {o':Oper}{d':Nat}{v':Value}{x y:Operand}(kk:To M St n b H₀ cs dl ((d',v')::(d,v)::R) L ds l k)(gA:o.op=.move x:=by exact rfl)(hx:BA R x=some v:=by exact rfl)(h1:HA dl R o=some true:=by exact rfl)(h2:wA o.op=false:=by exact rfl)(h3:o.dst=some d:=by exact rfl)(h4:d<n:=by decide)(gop:o'.op=.move y:=by exact rfl)(gx:BA ((d,v)::R) y=some v':=by exact rfl)(g1:HA dl ((d,v)::R) o'=some true:=by exact rfl)(g2:wA o'.op=false:=by exact rfl)(g3:o'.dst=some d':=by exact rfl)(g4:d'<n:=by decide):To M St n b H₀ cs dl R L ds (o::o'::l) k:=To.m (To.m kk gop gx g1 g2 g3 g4) gA hx h1 h2 h3 h4
theorem Tc.r {id:Nat}{ops:Array Oper}(h:To M St n b H₀ cs dl R L ds l k)(hl:ops.toList=l:=by exact rfl)(NU:l.map (fun o:Oper=> o.dst)=dl:=by exact rfl):Tc M St n b H₀ cs R L ds (.code (.region id ops false)::k):=Tc.region hl NU h
theorem Tc.sr {id:Nat}{ops:Array Oper}{y:Code}(h:To M St n b H₀ cs dl R L ds l (.code y::k))(hl:ops.toList=l:=by exact rfl)(NU:l.map (fun o:Oper=> o.dst)=dl:=by exact rfl):Tc M St n b H₀ cs R L ds (.code (.seq (.region id ops false) y)::k):=Tc.seq (Tc.region hl NU h)
theorem Tc.db {L':Bl}{todo:List Item}{R':Rg}(h:Tc M St n b H₀ cs R' L' ds todo)(hR:cC R' R:=by repeat (first|exact trivial|refine⟨rfl,?_⟩))(hL:L'.Sublist L:=by repeat (first|exact List.Sublist.refl _|exact List.nil_sublist _|exact List.sublist_append_left _ _|apply List.Sublist.cons_cons|apply List.Sublist.cons)):Tc M St n b H₀ cs R L ds todo:=Tc.TE h hR hL
theorem Tc.rt {fn:Func}{c:Frame}{Q:Value->View->Prop}{f:FuncId}{rs:List ResultVar}(hK:∀v H',Q v H'->T M St H' (G (c.finish v) cs))(hf:Tryz.prog.funcs[f]? =some fn)(eN:fn.results=rs.toArray)(vs:List Value)(h:∀H',eA H₀ L H'->Q (OC vs) H')
 (ho:eH en R L rs vs:=by repeat (first|exact trivial|refine⟨rfl,?_⟩|refine⟨⟨0,_,_,_,_,_,_,_,rfl,rfl,rfl,rfl⟩,?_⟩|refine⟨⟨1,_,_,_,_,_,_,_,rfl,rfl,rfl,rfl⟩,?_⟩|refine⟨⟨2,_,_,_,_,_,_,_,rfl,rfl,rfl,rfl⟩,?_⟩|refine⟨⟨3,_,_,_,_,_,_,_,rfl,rfl,rfl,rfl⟩,?_⟩|refine⟨⟨4,_,_,_,_,_,_,_,rfl,rfl,rfl,rfl⟩,?_⟩|refine⟨⟨5,_,_,_,_,_,_,_,rfl,rfl,rfl,rfl⟩,?_⟩|refine⟨⟨6,_,_,_,_,_,_,_,rfl,rfl,rfl,rfl⟩,?_⟩)):Tc M St n ⟨f,.normal,none⟩ H₀ (c::cs) R L [] (.code .ret::k):=Tc.L8 (E:=en) hK hf eN ho h
theorem Tc.ov {fn:Func}{c:Frame}{Q:Value->View->Prop}{f:FuncId}{rs:List ResultVar}(hK:∀v H',Q v H'->T M St H' (G (c.finish v) cs))(hf:Tryz.prog.funcs[f]? =some fn)(eN:fn.results=rs.toArray)(vs:List Value)(h:∀H',eA H₀ L H'->Q (OC vs) H')
 (ho:eH en R L rs vs:=by repeat (first|exact trivial|refine⟨rfl,?_⟩|refine⟨⟨0,_,_,_,_,_,_,_,rfl,rfl,rfl,rfl⟩,?_⟩|refine⟨⟨1,_,_,_,_,_,_,_,rfl,rfl,rfl,rfl⟩,?_⟩|refine⟨⟨2,_,_,_,_,_,_,_,rfl,rfl,rfl,rfl⟩,?_⟩|refine⟨⟨3,_,_,_,_,_,_,_,rfl,rfl,rfl,rfl⟩,?_⟩|refine⟨⟨4,_,_,_,_,_,_,_,rfl,rfl,rfl,rfl⟩,?_⟩|refine⟨⟨5,_,_,_,_,_,_,_,rfl,rfl,rfl,rfl⟩,?_⟩|refine⟨⟨6,_,_,_,_,_,_,_,rfl,rfl,rfl,rfl⟩,?_⟩)):Tc M St n ⟨f,.normal,none⟩ H₀ (c::cs) R L [] []:=Tc.aBF (E:=en) hK hf eN ho h
theorem To.bo {e:TypeId}{x:Operand}(kk:∀blk,To M St n b H₀ cs dl ((d,.pointer (some ⟨blk,0,none⟩))::R) ((blk,true,.cells ⟨v.cells.toList⟩ e (0,0))::L) ds l k)(gA:o.op=.box e x:=by exact rfl)(hx:BA R x=some v:=by exact rfl)(h1:HA dl R o=some true:=by exact rfl)(h2:wA o.op=false:=by exact rfl)(h3:o.dst=some d:=by exact rfl)(h4:d<n:=by decide):To M St n b H₀ cs dl R L ds (o::l) k:=To.op h1 h2 (Or.box gA h3 h4 hx kk)
theorem To.al {e:TypeId}{r:uA}(kk:∀blk,To M St n b H₀ cs dl ((d,.pointer (some ⟨blk,0,none⟩))::R) ((blk,true,.cells ⟨r.zero.cells.toList⟩ e (0,0))::L) ds l k)(gA:o.op=.alloc e:=by exact rfl)(ht:en.ty e=some r:=by exact rfl)(h1:HA dl R o=some true:=by exact rfl)(h2:wA o.op=false:=by exact rfl)(h3:o.dst=some d:=by exact rfl)(h4:d<n:=by decide):To M St n b H₀ cs dl R L ds (o::l) k:=To.op h1 h2 (Or.alloc (E:=en) gA ht h3 h4 kk)
theorem Ta.z {H₁:View}(i:Nat){md:Region.Mode}{ops:Array Oper}{B:List Nat}{Ls L₁:Bl}{fuel:Nat}{listed:Array Bool}(hi:ops[i]? =some o)
 (hv:∀H tmps,eA H₀ L H->LA n R tmps->AD M o tmps H fun u H'=> u=v/\H.le H')
 (h:Ta M St n b H₁ cs (S2 H₀ B Ls L) md ops fuel (listed.setIfInBounds i true) ((d,v)::R) L₁ ds k) (hc:uD md ops B listed i=true:=by kernel_rfl) (hd:o.dst=some d:=by exact rfl) (hn:d<n:=by decide) (SB:wA o.op=false:=by exact rfl) (hw:HA (ops.toList.map (fun o:Oper=> o.dst)) R o=some true:=by exact rfl):
 Ta M St n b H₁ cs (S2 H₀ B Ls L) md ops (fuel+1) listed R L₁ ds k:=Ta.tk i hc hi hd hn SB hw hv h
theorem So.m {x:Operand}(h:So J n b cs dl ((d,v)::R) ds l k)(gA:o.op=.move x:=by exact rfl)(hx:BA R x=some v:=by exact rfl)(hc:Cl Tryz.prog main sh J:=by first|exact Jm.cl|exact Jw.jG rfl|exact Jw.iG|exact Jq.cl|exact hc)(EF:o.dst=some d:=by exact rfl)(hn:Nat.blt d n=true:=by exact rfl)(hw:HA dl R o=some true:=by exact rfl)(eI:wA o.op=false:=by exact rfl):So J n b cs dl R ds (o::l) k:=So.opD hc EF hn hw eI (sh:=sh) (TB.move gA hx) h
theorem So.g {x:Operand}(h:So J n b cs dl ((d,v)::R) ds l k)(gA:o.op=.assign x:=by exact rfl)(hx:BA R x=some v:=by exact rfl)(hc:Cl Tryz.prog main sh J:=by first|exact Jm.cl|exact Jw.jG rfl|exact Jw.iG|exact Jq.cl|exact hc)(EF:o.dst=some d:=by exact rfl)(hn:Nat.blt d n=true:=by exact rfl)(hw:HA dl R o=some true:=by exact rfl)(eI:wA o.op=false:=by exact rfl):So J n b cs dl R ds (o::l) k:=So.opD hc EF hn hw eI (sh:=sh) (TB.assign gA hx) h
theorem So.i {op:BinOp}{u u':TypeId}{x y:Operand}{ik:IntKind}{p q:Int}(h:So J n b cs dl ((d,v)::R) ds l k)(gA:o.op=.binOp op u x y u':=by exact rfl)(hx:BA R x=some (.int ik p):=by exact rfl)(hy:BA R y=some (.int ik q):=by exact rfl)(hc:Cl Tryz.prog main sh J:=by first|exact Jm.cl|exact Jw.jG rfl|exact Jw.iG|exact Jq.cl|exact hc)(EF:o.dst=some d:=by exact rfl)(hn:Nat.blt d n=true:=by exact rfl)(hw:HA dl R o=some true:=by exact rfl)(eI:wA o.op=false:=by exact rfl)(z:iA op ik p q=some v):So J n b cs dl R ds (o::l) k:=So.opD hc EF hn hw eI (sh:=sh) (TB.int gA hx hy z) h
end
theorem dA.en {M:Md Tryz.prog}{f:FuncId}{fn:Func}{body:Code}{n:Nat}{vs:List Value}{H:View}{Q:Value->View->Prop}(hf:Tryz.prog.funcs[f]? =some fn)(hn:fn.ntmps=n)
 (h:∀St c cs,(∀v H',Q v H'->T M St H' (G (c.finish v) cs))->Tc M St n ⟨f,.normal,none⟩ H (c::cs) (BI vs) [] [] [.code body]) (hb:fn.body=some body:=by exact rfl) (hv:vs.length<=n:=by exact Nat.le_of_ble_eq_true rfl):dA M f vs.toArray H Q:=dA.enter hf hb hn hv (eA.nil _) h
theorem okB {H:View}{L:Bl}{v:Value}:∀H':View,eA H L H'->H.le H'/\v=v:=fun _ hs=> ⟨hs.base,rfl⟩
theorem dA.is {P:Program}{M:Md P}{f:FuncId}{az:Array Value}{H:View}{w:Value}(w':Value)(e:w=w')(h:dA M f az H fun v H'=> H.le H'/\v=w):dA M f az H fun v H'=> H.le H'/\v=w':=e▸h
section
variable {n:Nat}{H₀:View}{R:Rg}{L:Bl}{o:Oper}{v:Value}
theorem mA.a(h:mA Tryz.prog n H₀ R L o v:=by first|exact .mv|exact .sg|exact .fa|exact .pk|exact .et|exact .ln|exact .nt|exact .nk|exact .bu|exact .mf|exact .cv|exact .eb|exact .nb|exact .ia|exact .ib|exact .fd|exact .ld 0|exact .ld 1|exact .ld 2|exact .ld 3|exact .ld 4|exact .ld 5|exact .ld 6|exact .l0|exact .it (zz:=by first|assumption|exact UP oM oM|exact YD oM oM|exact dO oM|exact CJ oM|exact kC oM|exact NC oM|exact aD oM|exact XB oM|exact OQ oM|exact NQ oM|exact pI oM|exact jH oM|exact oH oM|exact NG oM|exact rfl)|exact mA.aDg (E:=en) rfl rfl rfl rfl rfl rfl rfl|exact mA.cF rfl rfl rfl (by first|assumption|exact rfl)|exact mA.gM (E:=en) rfl rfl rfl rfl rfl oM (by assumption)):mA Tryz.prog n H₀ R L o v:=h
end
section
variable {M:Md Tryz.prog}{St:View->Goroutine->Prop}{n:Nat}{b:FB}{H₀ H₁:View}{cs:List Frame}{R:Rg}{L Ls L₁:Bl}{ds:List Deferred}{k:List Item}{md:Region.Mode}{ops:Array Oper}{fuel:Nat}{listed:Array Bool}{B C:List Nat}{o:Oper}{d:Nat}{v:Value}{S:Array Bool->View->Prop}
theorem Ta.nn(i:Nat)(h:Ta M St n b H₁ cs (S2 H₀ B Ls L) md ops fuel (listed.setIfInBounds i true) ((d,v)::R) L₁ ds k)(hi:ops[i]? =some o:=by exact rfl)
 (hc:uD md ops B listed i=true:=by kernel_rfl) (ho:mA Tryz.prog n H₀ R L o v:=by exact .a) (hw:HA (ops.toList.map (fun o:Oper=> o.dst)) R o=some true:=by exact rfl) (hd:o.dst=some d:=by exact rfl) (hn:d<n:=by decide) (SB:wA o.op=false:=by exact rfl):Ta M St n b H₁ cs (S2 H₀ B Ls L) md ops (fuel+1) listed R L₁ ds k:=Ta.tk i hc hi hd hn SB hw (mA.take ho) h
theorem Ta.nw(i:Nat)(h:Ta M St n b H₁ cs (S2 H₀ B Ls L) md ops fuel (listed.setIfInBounds i true) ((d,v)::R) L₁ ds k)(hi:ops[i]? =some o:=by exact rfl)
  (hc:uD md ops [] listed i=true:=by kernel_rfl) (hb:B.contains i=false:=by exact rfl) (hv:HA (ops.toList.map (fun o:Oper=> o.dst)) R o=some false/\v=undef\/HA (ops.toList.map (fun o:Oper=> o.dst)) R o=some true/\mA Tryz.prog n H₀ R Ls o v:=by first|exact .inl ⟨rfl,rfl⟩|exact .inr ⟨rfl,.a⟩) (hd:o.dst=some d:=by exact rfl) (hn:d<n:=by decide) (SB:wA o.op=false:=by exact rfl):Ta M St n b H₁ cs (S2 H₀ B Ls L) md ops (fuel+1) listed R L₁ ds k:=by
 rcases hv with ⟨hw,rfl⟩|⟨hw,ho⟩
 ·exact Ta.ps i hc hb hi hd hn SB hw h
 ·exact Ta.tkw i hc hb hi hd hn SB hw (mA.take ho) h
theorem Ta.oo(i:Nat)(h:Ta M St n b H₀ cs (S3 H₀ B C Ls L) md ops fuel (listed.setIfInBounds i true) ((d,v)::R) L₁ ds k)(hi:ops[i]? =some o:=by exact rfl)
 (hc:VP md ops B C listed i=true:=by kernel_rfl) (ho:mA Tryz.prog n H₀ R L o v:=by exact .a) (hw:HA (ops.toList.map (fun o:Oper=> o.dst)) R o=some true:=by exact rfl) (hd:o.dst=some d:=by exact rfl) (hn:d<n:=by decide) (SB:wA o.op=false:=by exact rfl):Ta M St n b H₀ cs (S3 H₀ B C Ls L) md ops (fuel+1) listed R L₁ ds k:=Ta.tkC i hc hi hd hn SB hw (mA.take ho) h
theorem Ta.ea(i:Nat)(ho:ops[i]? =some o)(h:Or M n H₀ R L o fun R' L'=> (∀H,eA H₀ L' H->S (listed.setIfInBounds i true) H)/\Ta M St n b H₀ cs S md ops fuel (listed.setIfInBounds i true) R' L' ds k)(hr:Region.ready md ops listed= [i]:=by kernel_rfl)(hd:wA o.op=false:=by exact rfl)(hw:HA (ops.toList.map (fun o:Oper=> o.dst)) R o=some true:=by exact rfl):Ta M St n b H₀ cs S md ops (fuel+1) listed R L ds k:=Ta.each [i] hr rfl ⟨mJ.mk ho hd hw h,trivial⟩
theorem Ta.dn(h:Tc M St n b H₀ cs R L ds k)(hr:Region.ready md ops listed= []:=by kernel_rfl):Ta M St n b H₀ cs S md ops fuel listed R L ds k:=Ta.done hr h
theorem Ta.e(i j:Nat){t:TypeId}{x y:Operand}{r:uA}{blk off:Nat}{c c':List Value}{e:TypeId}(h:Ta M St n b H₀ cs (S2 H₁ B Ls L) md ops fuel (listed.setIfInBounds i true) R (L₁.set j (blk,true,.cells ⟨c'⟩ e (0,0))) ds k)(hi:ops[i]? =some o:=by exact rfl)(gA:o.op=.store t x y:=by exact rfl)(hx:BA R x=some (.pointer (some ⟨blk,off,none⟩)):=by exact rfl)(hy:BA R y=some v:=by exact rfl)(hj:L₁[j]? =some (blk,true,.cells ⟨c⟩ e (0,0)):=by exact rfl)(ht:en.ty t=some r:=by exact rfl)(hz:Nat.beq v.cells.toList.length r.size=true:=by exact rfl)(h0:Nat.beq r.size 0=false:=by exact rfl)(hl:Nat.ble (off+r.size) c.length=true:=by first|exact rfl|assumption)(hs:v.cells.toList.all single=true:=by exact rfl)(hd:o.dst=none:=by exact rfl)(hc:zE c off v.cells.toList=c':=by first|assumption|exact rfl)
  (hr:Region.ready md ops listed= [i]:=by kernel_rfl) (SB:wA o.op=false:=by exact rfl) (hw:HA (ops.toList.map (fun o:Oper=> o.dst)) R o=some true:=by exact rfl) (hS:∀H,eA H₀ (L₁.set j (blk,true,.cells ⟨c'⟩ e (0,0))) H->S2 H₁ B Ls L (listed.setIfInBounds i true) H:=by exact S2.mk (by repeat (first|exact List.Sublist.refl _|exact List.nil_sublist _|exact List.sublist_append_left _ _|apply List.Sublist.cons_cons|apply List.Sublist.cons)) (.inl kR)):Ta M St n b H₀ cs (S2 H₁ B Ls L) md ops (fuel+1) listed R L₁ ds k:=
 Ta.each [i] hr rfl ⟨mJ.mk hi SB hw (Or.storeT (E:=en) j gA hx hy hj ht hz h0 hl hs hd hc ⟨hS,h⟩),trivial⟩
theorem TC.h {g:FuncId}{az:List Value}{as':Array Value}{H:View}{Q:Value->View->Prop}(h:dA M g as' H Q)(PA:([]++az++[]).toArray=as':=by exact rfl)(hg:qA Tryz.prog g=true:=by kernel_rfl):TC M (.func (.func g) #[] #[]) az H Q:=TC.of (first:= []) (captured:= []) hg PA h
theorem mA.tk {M:Md Tryz.prog}{n:Nat}{H₀:View}{R:Rg}{L:Bl}{o:Oper}{v:Value}{g:FuncId}{as':Array Value}{cl:Go.Call}{x:Operand}{az:List Value}(hc:∀H,eA H₀ L H->dA M g as' H fun u H'=> H.le H'/\u=v)(gA:o.op=.call cl:=by exact rfl)(HB:cl.callee=.value x:=by exact rfl)(hx:BA R x=some (.func (.func g) #[] #[]):=by exact rfl)(has:ZD R cl.args.toList=some az:=by exact rfl)(PA:([]++az++[]).toArray=as':=by exact rfl)(hg:qA Tryz.prog g=true:=by kernel_rfl):∀H tmps,eA H₀ L H->LA n R tmps->AD M o tmps H fun u H'=> u=v/\H.le H':=
 mA.UM gA HB hx has fun H hs=> TC.h (hc H hs) PA hg
theorem To.cl {M:Md Tryz.prog}{St:View->Goroutine->Prop}{n:Nat}{b:FB}{H₀:View}{cs:List Frame}{R:Rg}{L:Bl}{ds:List Deferred}{k:List Item}{dl:List (Option Tmp)}{l:List Oper}{o:Oper}{d:Nat}{v:Value}{g:FuncId}{as':Array Value}{cl:Go.Call}{x:Operand}{az:List Value}(hc:∀H,eA H₀ L H->dA M g as' H fun u H'=> H.le H'/\u=v)(kk:To M St n b H₀ cs dl ((d,v)::R) L ds l k)(gA:o.op=.call cl:=by exact rfl)(HB:cl.callee=.value x:=by exact rfl)(hx:BA R x=some (.func (.func g) #[] #[]):=by exact rfl)(has:ZD R cl.args.toList=some az:=by exact rfl)(PA:([]++az++[]).toArray=as':=by exact rfl)(hg:qA Tryz.prog g=true:=by kernel_rfl)(h1:HA dl R o=some true:=by exact rfl)(h2:wA o.op=false:=by exact rfl)(h3:o.dst=some d:=by exact rfl)(h4:d<n:=by decide):To M St n b H₀ cs dl R L ds (o::l) k:=
 To.op h1 h2 (Or.ofT (mA.UM gA HB hx has fun H hs=> TC.h (hc H hs) PA hg) h3 h4 kk)
end
def wK(_:Nat)(Q P:Prop):Prop:=Q->P
section
variable {M:Md Tryz.prog}{St:View->Goroutine->Prop}{n:Nat}{b:FB}{H₀ H₁:View}{cs:List Frame}{R:Rg}{L Ls L₁:Bl}{ds:List Deferred}{k:List Item}{md:Region.Mode}{ops:Array Oper}{fuel:Nat}{listed:Array Bool}{B C:List Nat}{o:Oper}{d:Nat}{v:Value}
theorem wK.a {i:Nat}(hi:ops[i]? =some o:=by exact rfl)(hc:uD md ops B listed i=true:=by kernel_rfl)(ho:mA Tryz.prog n H₀ R L o v:=by exact .a)(hw:HA (ops.toList.map (fun o:Oper=> o.dst)) R o=some true:=by exact rfl)(hd:o.dst=some d:=by exact rfl)(hn:d<n:=by decide)(SB:wA o.op=false:=by exact rfl):
 wK i (Ta M St n b H₁ cs (S2 H₀ B Ls L) md ops fuel (listed.setIfInBounds i true) ((d,v)::R) L₁ ds k) (Ta M St n b H₁ cs (S2 H₀ B Ls L) md ops (fuel+1) listed R L₁ ds k):=fun h=> Ta.nn i h hi hc ho hw hd hn SB
end
theorem wK.tr {i:Nat}{P Q R:Prop}(h:wK i R P)(g:wK (i+1) Q R):wK i Q P:=fun q=> h (g q)
theorem V2(i:Nat){P Q:Prop}(q:Q)(h:wK i Q P:=by(iterate 1 (apply wK.tr;exact .a));exact .a):P:=h q
theorem V3(i:Nat){P Q:Prop}(q:Q)(h:wK i Q P:=by(iterate 2 (apply wK.tr;exact .a));exact .a):P:=h q
theorem V5(i:Nat){P Q:Prop}(q:Q)(h:wK i Q P:=by(iterate 4 (apply wK.tr;exact .a));exact .a):P:=h q
theorem V6(i:Nat){P Q:Prop}(q:Q)(h:wK i Q P:=by(iterate 5 (apply wK.tr;exact .a));exact .a):P:=h q
theorem V7(i:Nat){P Q:Prop}(q:Q)(h:wK i Q P:=by(iterate 6 (apply wK.tr;exact .a));exact .a):P:=h q
theorem V8(i:Nat){P Q:Prop}(q:Q)(h:wK i Q P:=by(iterate 7 (apply wK.tr;exact .a));exact .a):P:=h q
theorem V9(i:Nat){P Q:Prop}(q:Q)(h:wK i Q P:=by(iterate 8 (apply wK.tr;exact .a));exact .a):P:=h q
theorem V10(i:Nat){P Q:Prop}(q:Q)(h:wK i Q P:=by(iterate 9 (apply wK.tr;exact .a));exact .a):P:=h q
theorem V12(i:Nat){P Q:Prop}(q:Q)(h:wK i Q P:=by(iterate 11 (apply wK.tr;exact .a));exact .a):P:=h q
theorem V17(i:Nat){P Q:Prop}(q:Q)(h:wK i Q P:=by(iterate 16 (apply wK.tr;exact .a));exact .a):P:=h q
def Sp(Q P:Prop):Prop:=Q->P
section
variable {M:Md Tryz.prog}{St:View->Goroutine->Prop}{n:Nat}{b:FB}{H₀:View}{cs:List Frame}{R:Rg}{L:Bl}{ds:List Deferred}{k:List Item}{dl:List (Option Tmp)}{l:List Oper}{o:Oper}{d:Nat}{v:Value}
theorem Sp.a(hv:HA dl R o=some false/\v=undef\/HA dl R o=some true/\mA Tryz.prog n H₀ R L o v:=by first|exact .inl ⟨rfl,rfl⟩|exact .inr ⟨rfl,.a⟩)(h2:wA o.op=false:=by exact rfl)(h3:o.dst=some d:=by exact rfl)(h4:d<n:=by decide):Sp (To M St n b H₀ cs dl ((d,v)::R) L ds l k) (To M St n b H₀ cs dl R L ds (o::l) k):=fun kk=> by
 rcases hv with ⟨h1,rfl⟩|⟨h1,h⟩
 ·exact To.AL h3 h4 h1 kk
 ·exact To.op h1 h2 (Or.A4 h h3 h4 kk)
theorem Sp.w(i:Nat){t:TypeId}{x y:Operand}{r:uA}{blk off:Nat}{c c':List Value}{e:TypeId}(gA:o.op=.store t x y:=by exact rfl)(hx:BA R x=some (.pointer (some ⟨blk,off,none⟩)):=by exact rfl)(hy:BA R y=some v:=by exact rfl)(hi:L[i]? =some (blk,true,.cells ⟨c⟩ e (0,0)):=by exact rfl)(ht:en.ty t=some r:=by exact rfl)(hz:Nat.beq v.cells.toList.length r.size=true:=by exact rfl)(h0:Nat.beq r.size 0=false:=by exact rfl)(hl:Nat.ble (off+r.size) c.length=true:=by first|exact rfl|assumption)(hs:v.cells.toList.all single=true:=by exact rfl)(hd:o.dst=none:=by exact rfl)(hc:zE c off v.cells.toList=c':=by first|assumption|exact rfl)(h1:HA dl R o=some true:=by exact rfl)(h2:wA o.op=false:=by exact rfl):Sp (To M St n b H₀ cs dl R (L.set i (blk,true,.cells ⟨c'⟩ e (0,0))) ds l k) (To M St n b H₀ cs dl R L ds (o::l) k):=fun kk=> To.op h1 h2 (Or.storeT (E:=en) i gA hx hy hi ht hz h0 hl hs hd hc kk)
theorem Sp.dn:Sp (Tc M St n b H₀ cs R L ds k) (To M St n b H₀ cs dl R L ds [] k):=To.done
theorem Sp.s {x y:Code}:Sp (Tc M St n b H₀ cs R L ds (.code x:: .code y::k)) (Tc M St n b H₀ cs R L ds (.code (.seq x y)::k)):=Tc.seq
theorem Sp.r {id:Nat}{ops:Array Oper}(hl:ops.toList=l:=by exact rfl)(NU:l.map (fun o:Oper=> o.dst)=dl:=by exact rfl):Sp (To M St n b H₀ cs dl R L ds l k) (Tc M St n b H₀ cs R L ds (.code (.region id ops false)::k)):=Tc.region hl NU
theorem Sp.t {c:Operand}{x y:Code}(hc:BA R c=some (.bool true):=by exact rfl):Sp (Tc M St n b H₀ cs R L ds (.code x::k)) (Tc M St n b H₀ cs R L ds (.code (.cond c x y)::k)):=Tc.tt hc
theorem Sp.f {c:Operand}{x y:Code}(hc:BA R c=some (.bool false):=by exact rfl):Sp (Tc M St n b H₀ cs R L ds (.code y::k)) (Tc M St n b H₀ cs R L ds (.code (.cond c x y)::k)):=Tc.ff hc
theorem Sp.sk:Sp (Tc M St n b H₀ cs R L ds k) (Tc M St n b H₀ cs R L ds (.code .skip::k)):=Tc.skip
theorem Sp.bk {id:Nat}{c:Code}:Sp (Tc M St n b H₀ cs R L ds (.code c:: .inBlock id::k)) (Tc M St n b H₀ cs R L ds (.code (.block id c)::k)):=Tc.block
theorem Sp.i {id:Nat}:Sp (Tc M St n b H₀ cs R L ds k) (Tc M St n b H₀ cs R L ds (.inBlock id::k)):=Tc.inBlock
theorem Sp.e {id:Nat}{k':List Item}(he:exitTo id k=some k':=by exact rfl):Sp (Tc M St n b H₀ cs R L ds k') (Tc M St n b H₀ cs R L ds (.code (.exit id)::k)):=Tc.exit he
end
theorem Sp.on {P Q:Prop}(h:Sp Q P:=by first|exact .a|exact .dn|exact .s|exact .r|exact .t|exact .f|exact .sk|exact .bk|exact .i|exact .e|exact .w 0|exact .w 1|exact .w 2|exact .w 3|exact .w 4|exact .w 5|exact .w 6):Sp Q P:=h
theorem Sp.tr {P Q R:Prop}(h:Sp R P)(g:Sp Q R):Sp Q P:=fun q=> h (g q)
theorem U {P Q:Prop}(q:Q)(h:Sp Q P:=by exact .on):P:=h q
theorem U2 {P Q:Prop}(q:Q)(h:Sp Q P:=by(iterate 1 (apply Sp.tr;exact .on));exact .on):P:=h q
theorem U3 {P Q:Prop}(q:Q)(h:Sp Q P:=by(iterate 2 (apply Sp.tr;exact .on));exact .on):P:=h q
theorem U4 {P Q:Prop}(q:Q)(h:Sp Q P:=by(iterate 3 (apply Sp.tr;exact .on));exact .on):P:=h q
theorem U5 {P Q:Prop}(q:Q)(h:Sp Q P:=by(iterate 4 (apply Sp.tr;exact .on));exact .on):P:=h q
theorem U6 {P Q:Prop}(q:Q)(h:Sp Q P:=by(iterate 5 (apply Sp.tr;exact .on));exact .on):P:=h q
theorem U7 {P Q:Prop}(q:Q)(h:Sp Q P:=by(iterate 6 (apply Sp.tr;exact .on));exact .on):P:=h q
theorem U8 {P Q:Prop}(q:Q)(h:Sp Q P:=by(iterate 7 (apply Sp.tr;exact .on));exact .on):P:=h q
theorem U9 {P Q:Prop}(q:Q)(h:Sp Q P:=by(iterate 8 (apply Sp.tr;exact .on));exact .on):P:=h q
theorem fH {P Q:Prop}(q:Q)(h:Sp Q P:=by(iterate 9 (apply Sp.tr;exact .on));exact .on):P:=h q
theorem fF {P Q:Prop}(q:Q)(h:Sp Q P:=by(iterate 10 (apply Sp.tr;exact .on));exact .on):P:=h q
theorem xK {P Q:Prop}(q:Q)(h:Sp Q P:=by(iterate 11 (apply Sp.tr;exact .on));exact .on):P:=h q
theorem yK {P Q:Prop}(q:Q)(h:Sp Q P:=by(iterate 12 (apply Sp.tr;exact .on));exact .on):P:=h q
theorem yI {P Q:Prop}(q:Q)(h:Sp Q P:=by(iterate 13 (apply Sp.tr;exact .on));exact .on):P:=h q
theorem AV {P Q:Prop}(q:Q)(h:Sp Q P:=by(iterate 14 (apply Sp.tr;exact .on));exact .on):P:=h q
theorem uQ {P Q:Prop}(q:Q)(h:Sp Q P:=by(iterate 15 (apply Sp.tr;exact .on));exact .on):P:=h q
theorem PW {P Q:Prop}(q:Q)(h:Sp Q P:=by(iterate 16 (apply Sp.tr;exact .on));exact .on):P:=h q
theorem mN {P Q:Prop}(q:Q)(h:Sp Q P:=by(iterate 17 (apply Sp.tr;exact .on));exact .on):P:=h q
theorem wS {P Q:Prop}(q:Q)(h:Sp Q P:=by(iterate 18 (apply Sp.tr;exact .on));exact .on):P:=h q
theorem U20 {P Q:Prop}(q:Q)(h:Sp Q P:=by(iterate 19 (apply Sp.tr;exact .on));exact .on):P:=h q
theorem B5 {P Q:Prop}(q:Q)(h:Sp Q P:=by(iterate 20 (apply Sp.tr;exact .on));exact .on):P:=h q
theorem U22 {P Q:Prop}(q:Q)(h:Sp Q P:=by(iterate 21 (apply Sp.tr;exact .on));exact .on):P:=h q
theorem U23 {P Q:Prop}(q:Q)(h:Sp Q P:=by(iterate 22 (apply Sp.tr;exact .on));exact .on):P:=h q
theorem U24 {P Q:Prop}(q:Q)(h:Sp Q P:=by(iterate 23 (apply Sp.tr;exact .on));exact .on):P:=h q
theorem U25 {P Q:Prop}(q:Q)(h:Sp Q P:=by(iterate 24 (apply Sp.tr;exact .on));exact .on):P:=h q
theorem U26 {P Q:Prop}(q:Q)(h:Sp Q P:=by(iterate 25 (apply Sp.tr;exact .on));exact .on):P:=h q
theorem U27 {P Q:Prop}(q:Q)(h:Sp Q P:=by(iterate 26 (apply Sp.tr;exact .on));exact .on):P:=h q
theorem U28 {P Q:Prop}(q:Q)(h:Sp Q P:=by(iterate 27 (apply Sp.tr;exact .on));exact .on):P:=h q
theorem U29 {P Q:Prop}(q:Q)(h:Sp Q P:=by(iterate 28 (apply Sp.tr;exact .on));exact .on):P:=h q
theorem U30 {P Q:Prop}(q:Q)(h:Sp Q P:=by(iterate 29 (apply Sp.tr;exact .on));exact .on):P:=h q
theorem U31 {P Q:Prop}(q:Q)(h:Sp Q P:=by(iterate 30 (apply Sp.tr;exact .on));exact .on):P:=h q
theorem U33 {P Q:Prop}(q:Q)(h:Sp Q P:=by(iterate 32 (apply Sp.tr;exact .on));exact .on):P:=h q
theorem U34 {P Q:Prop}(q:Q)(h:Sp Q P:=by(iterate 33 (apply Sp.tr;exact .on));exact .on):P:=h q
theorem U38 {P Q:Prop}(q:Q)(h:Sp Q P:=by(iterate 37 (apply Sp.tr;exact .on));exact .on):P:=h q
theorem U39 {P Q:Prop}(q:Q)(h:Sp Q P:=by(iterate 38 (apply Sp.tr;exact .on));exact .on):P:=h q
theorem U40 {P Q:Prop}(q:Q)(h:Sp Q P:=by(iterate 39 (apply Sp.tr;exact .on));exact .on):P:=h q
theorem U41 {P Q:Prop}(q:Q)(h:Sp Q P:=by(iterate 40 (apply Sp.tr;exact .on));exact .on):P:=h q
theorem U42 {P Q:Prop}(q:Q)(h:Sp Q P:=by(iterate 41 (apply Sp.tr;exact .on));exact .on):P:=h q
theorem U50 {P Q:Prop}(q:Q)(h:Sp Q P:=by(iterate 49 (apply Sp.tr;exact .on));exact .on):P:=h q
theorem U56 {P Q:Prop}(q:Q)(h:Sp Q P:=by(iterate 55 (apply Sp.tr;exact .on));exact .on):P:=h q
theorem U58 {P Q:Prop}(q:Q)(h:Sp Q P:=by(iterate 57 (apply Sp.tr;exact .on));exact .on):P:=h q
end Go.RL
namespace Go.Proofs.YtgkmnalhddmclaaGreatDoor
open Go.RL Go.Proofs.Tryz
set_option maxRecDepth 10000
def WB(a b:Int):Value:=.agg ⟨[.int .i64 a,.int .i64 b]⟩
section
variable(M:Md prog)(H:View)
theorem aN(a b low high many:Int)(h1: -1000000000<=low)(h2:high<=1000000000):
  dA M 110 #[WB a b,.int .i64 low,.int .i64 high,.int .i64 many] H (fun v H'=> H.le H'/\v=.bool (decide (low<=a/\a<=b/\b<=high/\b-a<many))):=by
 refine .en func110 ntmps110 fun St c cs hK=> ?_;by_cases c1:low<=a
 all_goals by_cases c2:a<=b
 all_goals by_cases c3:b<=high
 all_goals by_cases c4:b-a<many
 all_goals
  refine U2 ?_;refine .bo fun b1=> ?_;refine U7 ?_;refine .i ?_ (z:=by first|exact oH oM|exact NG oM);refine U ?_;first|(refine .sk ?_)|(refine .x .fa ?_)
  first|(refine .sk ?_)|((refine .x (.ld 0) ?_))
  first|(refine .sk ?_)|(refine .x .fa ?_)
  first|(refine .sk ?_)|((refine .x (.ld 0) ?_))
  first|(refine .sk ?_)|(refine .x (.it (zz:=(by first|exact oH oM|exact NG oM))) ?_)
  refine U2 ?_;first|(refine .sk ?_)|(refine .x .fa ?_)
  first|(refine .sk ?_)|((refine .x (.ld 0) ?_))
  first|(refine .sk ?_)|(refine .m ?_)
  first|(refine .sk ?_)|(refine .x (.it (zz:=(by first|exact oH oM|exact NG oM))) ?_)
  refine U2 ?_;first|(refine .sk ?_)|(refine .x .fa ?_)
  first|(refine .sk ?_)|((refine .x (.ld 0) ?_))
  first|(refine .sk ?_)|(refine .x .fa ?_)
  first|(refine .sk ?_)|((refine .x (.ld 0) ?_))
  first|(refine .sk ?_)|(refine .x (.it (zz:=UP oM oM)) ?_)
  first|(refine .sk ?_)|(refine .m ?_)
  first|(refine .sk ?_)|(refine .x (.it (zz:=(by first|exact dO oM|exact CJ oM))) ?_)
  refine U3 ?_;refine .rt hK func110 results110 [_] ?_;exact fun H' hs=> ⟨hs.base,by simp[OC,c1,c2,c3,c4] <;> omega⟩
theorem q6(a b x:Int):dA M 137 #[WB a b,.int .i64 x] H (fun v H'=> H.le H'/\v=.bool (decide (a<=x/\x<=b))):=by
 refine .en func137 ntmps137 fun St c cs hK=> ?_;by_cases c1:a<=x
 all_goals by_cases c2:x<=b
 all_goals
  refine U2 ?_;refine .bo fun b1=> ?_;refine U7 ?_;refine .i ?_ (z:=by first|exact oH oM|exact NG oM);refine U ?_;first|(refine .sk ?_)|(refine .m ?_)
  first|(refine .sk ?_)|(refine .x .fa ?_)
  first|(refine .sk ?_)|((refine .x (.ld 0) ?_))
  first|(refine .sk ?_)|(refine .x (.it (zz:=(by first|exact oH oM|exact NG oM))) ?_)
  refine U3 ?_;refine .rt hK func137 results137 [_] ?_;exact fun H' hs=> ⟨hs.base,by simp[OC,c1,c2] <;> omega⟩
theorem eD(a b:Int):dA M 98 #[WB a b] H (fun v H'=> H.le H'/\v=WB a b):=by
 refine .en func98 ntmps98 fun St c cs hK=> ?_;refine U2 ?_;refine .bo fun b1=> ?_;refine .al fun b2=> ?_;refine fH ?_;refine .rt hK func98 results98 [_] ?_;exact okB
theorem kY(x:Int):dA M 47 #[.int .i64 x] H (fun v H'=> H.le H'/\v=.bool (decide (0<=x/\x<=31))):=by
 refine .en func47 ntmps47 fun St c cs hK=> ?_;by_cases c1:0<=x
 all_goals by_cases c2:x<=31
 all_goals
  refine U7 ?_;refine .i ?_ (z:=by first|exact OQ oM|exact NQ oM);refine U ?_;first|(refine .sk ?_)|(refine .m ?_)
  first|(refine .sk ?_)|(refine .x (.it (zz:=(by first|exact oH oM|exact NG oM))) ?_)
  refine U3 ?_;refine .rt hK func47 results47 [_] ?_;exact fun H' hs=> ⟨hs.base,by simp[OC,c1,c2] <;> omega⟩
def JB(pace after:Int):Nat->Int->Int
 | 0,n=> n
 | f+1,n=> if(2*n+1)*pace<after then JB pace after f (n+1) else n
def YA(pace after:Int):Int:=JB pace after 7 0
theorem qR(pace after:Int)(h1:0<=pace)(h2:pace<=1000000):dA M 171 #[.int .i64 pace,.int .i64 after] H (fun v H'=> H.le H'/\v=.int .i64 (YA pace after)):=by
 refine .en func171 ntmps171 fun St c cs hK=> ?_;refine fH ?_;refine Tc.R5 (R':= [(5,.int .i64 0),(0,.int .i64 pace),(1,.int .i64 after)]) ⟨rfl,rfl,rfl,trivial⟩ ?_;refine Tc.IA (σ:= { s:Int×Nat//0<=s.1/\s.1+s.2=7/\JB pace after s.2 s.1=YA pace after })
  (fun s=> ([(5,.int .i64 s.1.1),(0,.int .i64 pace),(1,.int .i64 after)],[])) (fun s=> s.1.2) ?_ ⟨(0,7),by simp,by simp,rfl⟩
 rintro⟨⟨s,f⟩,g1,g2,g3⟩ ih;simp only at g1 g2 g3;have m1:0<=(2*s+1)*pace:=Int.mul_nonneg oM h1;have m2:(2*s+1)*pace<=15*1000000:=Int.mul_le_mul oM h2 h1 oM;show Tc M St _ _ _ _ [(5,.int .i64 s),(0,.int .i64 pace),(1,.int .i64 after)] [] _ _
 match f,g2,g3,ih with
 | 0,g2,g3,_=>
  refine U22 ?_;refine .rt hK func171 results171 [_] ?_;exact fun H' hs=> ⟨hs.base,by simp only[OC];rw[<-g3];rfl⟩
 | f + 1,g2,g3,ih=>
  simp only[JB] at g3;by_cases c:(2*s+1)*pace<after
  ·rw[if_pos c] at g3;refine U7 ?_;refine .i ?_ (z:=pD oM oM);refine U2 ?_;refine .i ?_ (z:=pD oM oM);refine yK ?_;exact Tc.db (ih ⟨(s+1,f),by simp only;omega,by simp only;omega,g3⟩ (by simp))
  ·rw[if_neg c] at g3;refine U7 ?_;refine .i ?_ (z:=pD oM oM);refine U2 ?_;refine .i ?_ (z:=pD oM oM);refine fF ?_;refine .rt hK func171 results171 [_] ?_;exact fun H' hs=> ⟨hs.base,by simp only[OC];rw[<-g3]⟩
end
def jE(code place:Nat):Nat:=if place=0 then 0 else if place=6 then 1 else code/2 ^ (place-1)%2
def pB(v first:Nat):Nat:=v ^^^ (128-2 ^ first)
def xD(v:Nat):Option Nat:=if v%2=0/\v/64%2=1 then some (v/2%32) else none
theorem XO:∀c:Nat,c<32->∀p:Nat,p<7->p≠0->p≠6->DD .and .i64 (Int.fdiv (c:Int) (2 ^ (min ((p:Int)-1).toNat 64))) 1=(jE c p:Nat):=by decide +kernel
theorem bS:∀v:Nat,v<128->∀f:Nat,f<8->DD .xor .u8 (v:Int) (DD .andNot .u8 127 (IntKind.u8.wrap (IntKind.u8.wrap (1*2 ^ (min (f:Int).toNat 8))-1)))=(pB v f:Nat):=by decide +kernel
theorem JN:∀v:Nat,v<128->DD .and .u8 (v:Int) 1=((v%2:Nat):Int):=by decide +kernel
theorem xS:∀v:Nat,v<128->DD .and .u8 (v:Int) 31=((v%32:Nat):Int):=by decide +kernel
theorem UR:∀v:Nat,v<128->∀k:Nat,k<7->Int.fdiv (v:Int) (2 ^ (min (k:Int).toNat 8))=((v/2 ^ k:Nat):Int):=by decide +kernel
section
variable(M:Md prog)(H:View)
theorem ON(code place:Nat)(h1:code<32)(h2:place<7):dA M 87 #[.int .i64 code,.int .i64 place] H (fun v H'=> H.le H'/\v=.int .i64 (jE code place:Nat)):=by
 refine .en func87 ntmps87 fun St c cs hK=> ?_;by_cases c1:place=0
 ·subst c1;refine U20 ?_;refine .rt hK func87 results87 [_] ?_;exact okB
 ·by_cases c2:place=6
  ·subst c2;refine U26 ?_;refine .rt hK func87 results87 [_] ?_;exact okB
  ·have hb:=XO code h1 place h2 c1 c2;refine U29 ?_;refine .x .sf ?_;refine U3 ?_;refine .rt hK func87 results87 [_] ?_;exact fun H' hs=> ⟨hs.base,by simp only[OC];rw[<-hb];rfl⟩
theorem cS(v first:Nat)(h1:v<128)(h2:first<8):dA M 123 #[.int .u8 v,.int .i64 first] H (fun r H'=> H.le H'/\r=.int .u8 (pB v first:Nat)):=by
 refine .en func123 ntmps123 fun St c cs hK=> ?_;have hb:=bS v h1 first h2;refine U8 ?_;refine .x .sf ?_;refine U5 ?_;refine .rt hK func123 results123 [_] ?_;exact fun H' hs=> ⟨hs.base,by simp only[OC];rw[<-hb];rfl⟩
theorem XY(v:Nat)(h1:v<128):dA M 55 #[.int .u8 v] H (fun r H'=> H.le H'/\r=(match xD v with|some n=> .tuple ⟨[.int .i64 (n:Nat),.bool true]⟩|none=> .tuple ⟨[.int .i64 0,.bool false]⟩)):=by
 refine .en func55 ntmps55 fun St c cs hK=> ?_;have e1:iA .and .u8 (v:Int) 1=some (.int .u8 ((v%2:Nat):Int)):=by simp only[iA,JN v h1]
 have e2:qC .shr .u8 (v:Int) 6=some (.int .u8 ((v/64:Nat):Int)):=by simp only[qC];exact congrArg (fun z=> some (Value.int .u8 z)) (UR v h1 6 oM)
 have e3:iA .and .u8 ((v/64:Nat):Int) 1=some (.int .u8 ((v/64%2:Nat):Int)):=by simp only[iA,JN (v/64) oM]
 have e4:qC .shr .u8 (v:Int) 1=some (.int .u8 ((v/2:Nat):Int)):=by simp only[qC];exact congrArg (fun z=> some (Value.int .u8 z)) (UR v h1 1 oM)
 have e5:iA .and .u8 ((v/2:Nat):Int) 31=some (.int .u8 ((v/2%32:Nat):Int)):=by simp only[iA,xS (v/2) oM]
 have e6:IntKind.i64.wrap ((v/2%32:Nat):Int)=((v/2%32:Nat):Int):=wrap64 oM oM;by_cases c1:v%2=0
 ·by_cases c2:v/64%2=1
  ·refine yK ?_;refine .x .sf ?_;refine U9 ?_;refine .x .sf ?_;refine U5 ?_;refine .rt hK func55 results55 [_,_] ?_;exact fun H' hs=> ⟨hs.base,by simp[OC,xD,c1,c2]⟩
  ·refine yK ?_;refine .x .sf ?_;refine fH ?_;refine .rt hK func55 results55 [_,_] ?_;exact fun H' hs=> ⟨hs.base,by simp[OC,xD,c2]⟩
 ·refine U24 ?_;refine .rt hK func55 results55 [_,_] ?_;exact fun H' hs=> ⟨hs.base,by simp[OC,xD,c1]⟩
end
def kL(code place:Nat):Nat:=if place=0 then 1 else jE code (place-1)
def bA(code:Nat):Nat->List Nat
 | 0=> []
 | p+1=> if jE code p=kL code p then bA code p else bA code p++[p]
def qB(ps:List Nat):List Value:=(ps.zipIdx.map fun x=> [Value.int .i64 (x.1:Nat),Value.int .i64 (x.2:Nat)]).flatten
theorem XL(ps:List Nat)(p:Nat):qB (ps++[p])=qB ps++[.int .i64 (p:Nat),.int .i64 (ps.length:Nat)]:=by
 unfold qB;rw[List.zipIdx_append];simp
theorem KP(code p:Nat):(bA code p).length<=p:=by
 induction p with
 | zero=> simp[bA]
 | succ p ih=>
  unfold bA;split
  ·omega
  ·simp;omega
section
variable(M:Md prog)(H:View)
theorem NI(code:Nat)(h1:code<32):dA M 48 #[.int .i64 code] H (fun v H'=> H.le H'/\∃g:Gl 108 2,v=.agg ⟨[.int .i64 code,g.val]⟩/\g.n=(bA code 7).length/\g.l=qB (bA code 7)/\∀x∈g.bl,H' x.1=some x.2/\H x.1=none):=by
 refine .en func48 ntmps48 fun St c cs hK=> ?_;refine U2 ?_;refine .al fun b2=> ?_;refine U5 ?_;refine .al fun b3=> ?_;refine xK ?_;refine Tc.db (Tc.IA (σ:= { s:Nat×Gl 108 2//s.1<=7/\s.2.n=(bA code s.1).length/\s.2.l=qB (bA code s.1) })
  (fun s=> ([(9,.int .i64 (s.1.1:Nat)),(4,.int .i64 (kL code s.1.1:Nat)),(0,.int .i64 code),(2,.pointer (some ⟨b2,0,none⟩)),(3,.pointer (some ⟨b3,0,none⟩))],
   (b3,true,.cells ⟨[.int .i64 code,s.1.2.val]⟩ 105 (0,0))::(b2,true,.cells ⟨[.int .i64 0,.slice none 0 0]⟩ 105 (0,0))::s.1.2.bl)) (fun s=> 7-s.1.1) ?_ ⟨(0,Gl.nil 108 2),by simp,rfl,rfl⟩)
 rintro⟨⟨p,g⟩,g1,g2,g3⟩ ih;simp only at g1 g2 g3;have hlen:=KP code p;show Tc M St _ _ _ _ [(9,.int .i64 (p:Nat)),(4,.int .i64 (kL code p:Nat)),(0,.int .i64 code),(2,.pointer (some ⟨b2,0,none⟩)),(3,.pointer (some ⟨b3,0,none⟩))]
   ((b3,true,.cells ⟨[.int .i64 code,g.val]⟩ 105 (0,0))::(b2,true,.cells ⟨[.int .i64 0,.slice none 0 0]⟩ 105 (0,0))::g.bl) _ _
 by_cases c7:p=7
 ·subst c7;refine xK ?_;refine .rt hK func48 results48 [_] ?_;refine fun H' hs=> ⟨hs.base,g,rfl,g2,g3,fun x hx=> ⟨hs.at_ x ?_,hs.out x ?_⟩⟩
  ·exact List.mem_cons_of_mem _ (List.mem_cons_of_mem _ hx)
  ·exact List.mem_cons_of_mem _ (List.mem_cons_of_mem _ hx)
 ·have c8:p<7:=by omega
  refine mN ?_;refine .cl (fun H hs=> ON M H code p h1 c8) ?_;refine U4 ?_;by_cases he:jE code p=kL code p
  ·refine uQ ?_;exact Tc.db (ih ⟨(p+1,g),by simp only;omega,by simp only[bA,he,if_true];exact g2,by simp only[bA,he,if_true];exact g3⟩ (by simp only;omega))
  ·refine yI ?_;refine .e (.bs (zz:=fun bs=> ?_));refine .e (Or.append (E:=en) 3 rfl rfl rfl rfl rfl rfl rfl rfl rfl rfl rfl rfl rfl rfl rfl (fun H hs=> gB.of (hs.get (i:=0) rfl) (Nat.le_of_ble_eq_true rfl)) rfl oM rfl dE (fun g' hn hl=> ?_));refine xK ?_;exact Tc.db (ih ⟨(p+1,g'),by simp only;omega,by simp only[bA,he,if_false];rw[hn,g2];simp,by simp only[bA,he,if_false];rw[hl,g3,XL];rw[g2];rfl⟩ (by simp only;omega))
end
def uF(code:Nat):Nat->Nat
 | 0=> 0
 | p+1=> uF code p+jE code p*2 ^ p
def xB(code:Nat):Nat:=uF code 7
theorem TT:∀c:Nat,c<32->∀p:Nat,p<7->DD .or .u8 (uF c p:Nat) (IntKind.u8.wrap (IntKind.u8.wrap (jE c p:Nat)*2 ^ (min (p:Int).toNat 8)))=(uF c (p+1):Nat):=by decide +kernel
section
variable(M:Md prog)(H:View)
theorem NP(code:Nat)(sv:Value)(h1:code<32):dA M 54 #[.agg ⟨[.int .i64 code,sv]⟩] H (fun v H'=> H.le H'/\v=.int .u8 (xB code:Nat)):=by
 refine .en func54 ntmps54 fun St c cs hK=> ?_;refine U2 ?_;refine .bo fun b1=> ?_;refine xK ?_;refine Tc.db (Tc.IA (σ:= { p:Nat//p<=7 })
  (fun s=> ([(5,.int .i64 (s.1:Nat)),(3,.int .u8 (uF code s.1:Nat)),(1,.pointer (some ⟨b1,0,none⟩))],[(b1,true,.cells ⟨[.int .i64 code,sv]⟩ 105 (0,0))])) (fun s=> 7-s.1) ?_ ⟨0,by simp⟩)
 rintro⟨p,g1⟩ ih;show Tc M St _ _ _ _ [(5,.int .i64 (p:Nat)),(3,.int .u8 (uF code p:Nat)),(1,.pointer (some ⟨b1,0,none⟩))] [(b1,true,.cells ⟨[.int .i64 code,sv]⟩ 105 (0,0))] _ _;by_cases c7:p=7
 ·subst c7;refine xK ?_;refine .rt hK func54 results54 [_] ?_;exact okB
 ·have c8:p<7:=by omega
  have e1:iA .or .u8 (uF code p:Nat) (IntKind.u8.wrap (IntKind.u8.wrap (jE code p:Nat)*2 ^ (min (p:Int).toNat IntKind.u8.bits)))=some (.int .u8 (uF code (p+1):Nat)):=congrArg (fun z=> some (Value.int .u8 z)) (TT code h1 p c8);refine wS ?_;refine .cl (fun H hs=> ON M H code p h1 c8) ?_;refine U2 ?_;refine .x .sf ?_;refine U8 ?_;exact Tc.db (ih ⟨p+1,oM⟩ (by simp only;omega))
end
def WA(p:Nat->Bool)(k:Nat):List Value:=((List.range k).filter p).map fun i=> .int .i64 (i:Nat)
theorem FK(p:Nat->Bool)(k:Nat):WA p (k+1)=if p k then WA p k++[.int .i64 (k:Nat)] else WA p k:=by
 unfold WA;rw[List.range_succ,List.filter_append];cases h:p k <;> simp[h]
theorem oT(p:Nat->Bool)(k:Nat):(WA p k).length<=k:=by
 unfold WA;rw[List.length_map];exact Nat.le_trans (List.length_filter_le _ _) (by simp)
def gN(M:Md prog)(H:View)(fv:Value)(many:Nat)(p:Nat->Bool):Prop:=
 ∀i:Nat,i<many->∀H',H.le H'->TC M fv [.int .i64 (i:Nat)] H' fun v H''=> H'.le H''/\v=.bool (p i)
def KB(p:Nat->Bool):Nat->Option Nat
 | 0=> none
 | k+1=> (KB p k).or (if p k then some k else none)
theorem vN {p:Nat->Bool}{j x:Nat}(h:KB p j=some x):∀m,j<=m->KB p m=some x:=by
 intro m hm;induction m with
 | zero=>
  have:j=0:=by omega
  subst this;exact h
 | succ m ih=>
  by_cases e:j=m+1
  ·subst e;exact h
  ·rw[KB,ih oM];rfl
section
variable(M:Md prog)(H:View)
theorem o8(many:Nat)(fv:Value)(p:Nat->Bool)(hm:many<=100000)(hp:gN M H fv many p):dA M 50 #[.int .i64 many,fv] H (fun v H'=> H.le H'/\∃g:Gl 3 1,v=g.val/\g.l=WA p many/\∀x∈g.bl,H' x.1=some x.2/\H x.1=none):=by
 refine .en func50 ntmps50 fun St c cs hK=> ?_;refine AV ?_;refine Tc.db (Tc.IA (σ:= { s:Nat×Gl 3 1//s.1<=many/\s.2.l=WA p s.1 })
  (fun s=> ([(8,.int .i64 (s.1.1:Nat)),(7,.int .i64 many),(1,fv),(5,s.1.2.val)],s.1.2.bl)) (fun s=> many-s.1.1) ?_ ⟨(0,Gl.nil 3 1),by simp,rfl⟩)
 rintro⟨⟨k,g⟩,g1,g2⟩ ih;simp only at g1 g2;have hlen:g.n<=k:=by
  have h1:=oT p k;rw[<-g2,g.hl] at h1;omega
 show Tc M St _ _ _ _ [(8,.int .i64 (k:Nat)),(7,.int .i64 many),(1,fv),(5,g.val)] g.bl _ _;by_cases c1:k=many
 ·subst c1;refine xK ?_;refine .rt hK func50 results50 [_] ?_;exact fun H' hs=> ⟨hs.base,g,rfl,g2,fun x hx=> ⟨hs.at_ x hx,hs.out x hx⟩⟩
 ·have c2:k<many:=by omega
  refine mN ?_;refine .c rfl rfl rfl rfl (fun H hs=> hp k c2 H hs.base) ?_;refine U ?_;cases JZ:p k with
  | false=>
   refine U7 ?_;exact Tc.db (ih ⟨(k+1,g),by simp only;omega,by simp only[FK,JZ];exact g2⟩ (by simp only;omega))
  | true=>
   refine U4 ?_;refine .e (.bs (zz:=fun bs=> ?_));refine .e (Or.append (E:=en) 1 rfl rfl rfl rfl rfl rfl rfl rfl rfl rfl rfl rfl rfl rfl rfl (fun H hs=> gB.of (hs.get (i:=0) rfl) (Nat.le_of_ble_eq_true rfl)) rfl oM rfl dE (fun g' hn hl=> ?_));refine U7 ?_;exact Tc.db (ih ⟨(k+1,g'),by simp only;omega,by simp only[FK,JZ,if_true];rw[hl,g2];rfl⟩ (by simp only;omega))
theorem nL(many:Nat)(fv:Value)(p:Nat->Bool)(hm:many<=100000)(hp:gN M H fv many p):dA M 58 #[.int .i64 many,fv] H (fun v H'=> H.le H'/\v=.tuple ⟨[.int .i64 ((KB p many).getD 0:Nat),.bool (KB p many).isSome]⟩):=by
 refine .en func58 ntmps58 fun St c cs hK=> ?_;refine xK ?_;refine Tc.db (Tc.IA (σ:= { k:Nat//k<=many/\KB p k=none })
  (fun s=> ([(8,.int .i64 (s.1:Nat)),(7,.int .i64 many),(1,fv)],[])) (fun s=> many-s.1) ?_ ⟨0,by simp,rfl⟩)
 rintro⟨k,g1,g2⟩ ih;show Tc M St _ _ _ _ [(8,.int .i64 (k:Nat)),(7,.int .i64 many),(1,fv)] [] _ _;by_cases c1:k=many
 ·subst c1;refine xK ?_;refine .rt hK func58 results58 [_,_] ?_;exact fun H' hs=> ⟨hs.base,by simp[OC,g2]⟩
 ·have c2:k<many:=by omega
  refine mN ?_;refine .c rfl rfl rfl rfl (fun H hs=> hp k c2 H hs.base) ?_;refine U ?_;cases JZ:p k with
  | false=>
   refine U7 ?_;exact Tc.db (ih ⟨k+1,oM,by simp[KB,g2,JZ]⟩ (by simp only;omega))
  | true=>
   refine U7 ?_;refine .rt hK func58 results58 [_,_] ?_;have h1:KB p (k+1)=some k:=by simp[KB,g2,JZ]
   have h2:=vN h1 many oM;exact fun H' hs=> ⟨hs.base,by simp[OC,h2]⟩
theorem aAy(a b:Int)(fv:Value)(J:Int->View->Prop)(D:View->Prop)(ha: -1000000000<=a)(hb:b<=1000000000)(h0:J a H)
  (hy:∀i H',a<=i->i<=b->J i H'->TC M fv [.int .i64 i] H' fun v H''=> (v=.bool true/\J (i+1) H'')\/(v=.bool false/\D H'')):
  dA M 99 #[WB a b,fv] H (fun _ H'=> ∃H₁,H₁.le H'/\((∃i,b<i/\a<=i/\(i=a\/i=b+1)/\J i H₁)\/D H₁)):=by
 refine .en func99 ntmps99 fun St c cs hK=> ?_;refine U2 ?_;refine .bo fun b1=> ?_;refine U8 ?_;refine Tc.db (Tc.oR (σ:= { s:Int×View//a<=s.1/\(s.1=a\/s.1<=b+1)/\J s.1 s.2 })
  (fun s=> (s.1.2,[(4,.int .i64 s.1.1),(1,fv),(2,.pointer (some ⟨b1,0,none⟩))],[(b1,true,.cells ⟨[.int .i64 a,.int .i64 b]⟩ 162 (0,0))])) (fun s=> (b+1-s.1.1).toNat) ?_ ⟨(a,H),by simp,by simp,h0⟩)
 rintro⟨⟨i,H₁⟩,g1,g2,g3⟩ ih;simp only at g1 g2 g3;show Tc M St _ _ H₁ _ [(4,.int .i64 i),(1,fv),(2,.pointer (some ⟨b1,0,none⟩))] [(b1,true,.cells ⟨[.int .i64 a,.int .i64 b]⟩ 162 (0,0))] _ _;by_cases c1:i<=b
 ·refine uQ ?_;refine To.OF rfl rfl rfl rfl rfl rfl dE (hy i H₁ g1 c1 g3) (fun v H₂ hv=> ?_);rcases hv with ⟨rfl,hv⟩|⟨rfl,hv⟩
  ·refine fH ?_;exact Tc.db (ih ⟨(i+1,H₂),by simp only;omega,by simp only;omega,hv⟩ (by simp only;omega))
  ·refine U3 ?_;refine .rt hK func99 results99 [] ?_;exact fun H' hs=> ⟨H₂,hs.base,.inr hv⟩
 ·refine fH ?_;refine .ov hK func99 results99 [] ?_;exact fun H' hs=> ⟨H₁,hs.base,.inl ⟨i,oM,g1,oM,g3⟩⟩
end
def kA(l:List Int):List Value:=l.map fun x=> .int .i64 x
def pK(l:List Int):Value:=.agg ⟨kA l⟩
def OA(l:List Int)(k:Nat):List Int:=l.zipIdx.map fun x=> if x.2<k then x.1-l.headD 0 else x.1
theorem rA(l:List Int):(kA l).length=l.length:=by simp[kA]
theorem GC(l:List Int)(k:Nat):(OA l k).length=l.length:=by simp[OA]
theorem kF {l:List Int}{k i:Nat}{x:Int}(h:l[i]? =some x):(OA l k)[i]? =some (if i<k then x-l.headD 0 else x):=by
 simp[OA,h]
theorem SH {l:List Int}{i:Nat}{x:Int}(h:l[i]? =some x):(kA l)[i]? =some (.int .i64 x):=by simp[kA,h]
theorem BL(l:List Value)(i:Nat)(v:Value)(h:i<l.length):zE l i [v]=l.set i v:=by
 unfold zE;rw[List.set_eq_take_append_cons_drop,if_pos h];simp
theorem six {l:List Int}(h:l.length=6):∃a b c d e f,l= [a,b,c,d,e,f]:=by
 match l,h with
 | [a,b,c,d,e,f],_=> exact⟨a,b,c,d,e,f,rfl⟩
theorem OO {l:List Int}{k:Nat}{x:Int}(h:l[k]? =some x):zE (kA (OA l k)) k [.int .i64 (x-l.headD 0)]=kA (OA l (k+1)):=by
 have hk:k<l.length:=(List.getElem?_eq_some_iff.1 h).1;rw[BL _ _ _ (by rw[rA,GC];exact hk)];apply List.ext_getElem?
 intro i;by_cases e:k=i
 ·subst e;rw[List.getElem?_set_self (by rw[rA,GC];exact hk),SH (kF h),if_pos oM]
 ·rw[List.getElem?_set_ne e];cases hx:l[i]? with
  | none=>
   have h1:l.length<=i:=List.getElem?_eq_none_iff.1 hx;rw[List.getElem?_eq_none (by rw[rA,GC];exact h1),List.getElem?_eq_none (by rw[rA,GC];exact h1)]
  | some y=>
   rw[SH (kF hx),SH (kF hx)];by_cases e2:i<k
   ·rw[if_pos e2,if_pos oM]
   ·rw[if_neg e2,if_neg oM]
section
variable(M:Md prog)(H:View)
theorem E1(a:Option Addr)(m c:Nat)(l:List Value)(hm:m<=100000)(hs:gB H 1 (.slice a m c) m l)(h1:l.all single=true):dA M 94 #[.slice a m c] H (fun v H'=> H.le H'/\∃g:Gl 3 1,v=g.val/\g.l=l/\∀x∈g.bl,H' x.1=some x.2/\H x.1=none):=by
 refine .en func94 ntmps94 fun St c cs hK=> ?_;cases a with
 | none=>
  refine U8 ?_;refine .x (mA.W5 (E:=en) rfl rfl rfl rfl rfl) ?_;refine U6 ?_;refine .rt hK func94 results94 [_] ?_;refine fun H' hs'=> ⟨hs'.base,Gl.nil 3 1,rfl,?_,by simp[Gl.nil,Gl.bl]⟩
  obtain⟨_,h2,h3|⟨b,off,_,_,_,_,_,h3,_⟩⟩:=hs
  ·obtain⟨_,_,_,rfl⟩:=h3;rfl
  ·cases h3
 | some a=>
  refine U8 ?_;refine .x (mA.W5 (E:=en) rfl rfl rfl rfl rfl) ?_;refine U5 ?_;refine .e (.bs (zz:=fun bs=> ?_));refine U ?_;refine .e (Or.append (E:=en) (g:=Gl.emp 3 1 bs) 0 rfl rfl rfl rfl rfl rfl rfl rfl rfl rfl rfl rfl rfl rfl rfl (fun H' hs'=> hs.mono hs'.base) h1 (by show 0+m<=_;omega) rfl dE (fun g' hn hl=> ?_));refine U2 ?_;refine .rt hK func94 results94 [_] ?_;exact fun H' hs'=> ⟨hs'.base,g',rfl,by rw[hl];rfl,fun x hx=> ⟨hs'.at_ x hx,hs'.out x hx⟩⟩
theorem PO(l:List Int)(many:Nat)(h6:l.length=6)(hm:many<=6)(hb:∀x∈l, -1000000000<=x/\x<=1000000000):dA M 97 #[pK l,.int .i64 many] H (fun v H'=> H.le H'/\v=pK (OA l many)):=by
 refine .en func97 ntmps97 fun St c cs hK=> ?_;obtain⟨x0,l',rfl⟩:∃x l',l=x::l':=by
  cases l with
  | nil=> cases h6
  | cons x l'=> exact⟨x,l',rfl⟩
 have z0:OA (x0::l') 0=x0::l':=by
  unfold OA;simp
 have hx0:=hb x0 (by simp);refine U2 ?_;refine .bo fun b2=> ?_;refine .al fun b4=> ?_;refine yI ?_;refine Tc.db (Tc.IA (σ:= { s:Nat×List Int//s.1<=many/\s.2=OA (x0::l') s.1 })
  (fun s=> ([(10,.int .i64 (s.1.1:Nat)),(9,.int .i64 many),(5,.int .i64 x0),(2,.pointer (some ⟨b2,0,none⟩)),(4,.pointer (some ⟨b4,0,none⟩))],
   [(b4,true,.cells ⟨[.int .i64 0,.int .i64 0,.int .i64 0,.int .i64 0,.int .i64 0,.int .i64 0]⟩ 127 (0,0)),(b2,true,.cells ⟨kA s.1.2⟩ 127 (0,0))])) (fun s=> many-s.1.1) ?_ ⟨(0,x0::l'),by simp,z0.symm⟩)
 rintro⟨⟨k,cur⟩,g1,g2⟩ ih;simp only at g1 g2;have HB:(kA cur).length=6:=by rw[rA,g2,GC];exact h6
 show Tc M St _ _ _ _ [(10,.int .i64 (k:Nat)),(9,.int .i64 many),(5,.int .i64 x0),(2,.pointer (some ⟨b2,0,none⟩)),(4,.pointer (some ⟨b4,0,none⟩))]
   [(b4,true,.cells ⟨[.int .i64 0,.int .i64 0,.int .i64 0,.int .i64 0,.int .i64 0,.int .i64 0]⟩ 127 (0,0)),(b2,true,.cells ⟨kA cur⟩ 127 (0,0))] _ _
 by_cases c1:k=many
 ·subst c1;obtain⟨y0,y1,y2,y3,y4,y5,hy⟩:=six (show cur.length=6 by rw[<-rA];exact HB);subst hy;refine xK ?_;refine .rt hK func97 results97 [_] ?_;exact fun H' hs=> ⟨hs.base,by rw[<-g2];rfl⟩
 ·have c2:k<many:=by omega
  obtain⟨x,hx⟩:∃x,(x0::l')[k]? =some x:=⟨_,List.getElem?_eq_getElem (by rw[h6];omega)⟩
  have hxb:=hb x (List.mem_of_getElem? hx);have hcx:cur[k]? =some x:=by rw[g2,kF hx,if_neg oM]
  have f1:YB false 1 (kA cur) (0+(k:Int).toNat*1)=some (.int .i64 x):=by
   show(kA cur)[0+(k:Int).toNat*1]? =_;rw[show 0+(k:Int).toNat*1=k by simp];exact SH hcx
  have f2:zE (kA cur) (0+(k:Int).toNat*1) [.int .i64 (x-x0)]=kA (OA (x0::l') (k+1)):=by
   rw[show 0+(k:Int).toNat*1=k by simp,g2];exact OO hx
  have f3:Nat.ble (0+(k:Int).toNat*1+1) (kA cur).length=true:=Nat.ble_eq_true_of_le (by rw[HB];simp;omega);refine U28 ?_;exact Tc.db (ih ⟨(k+1,OA (x0::l') (k+1)),by simp only;omega,rfl⟩ (by simp only;omega))
end
def ND(place number send lean:Int):Int:=2*place*send+if number%2=0 then -lean else lean
def seenAt(ps:List Nat)(mv:List Int)(send lean:Int)(i:Nat):Int:=ND ((ps[i]?.getD 0:Nat):Int) i send lean+mv[i]?.getD 0
def sD(ps:List Nat)(mv:List Int)(send lean:Int)(k:Nat):List Int:=(List.range 6).map fun i=> if i<k then seenAt ps mv send lean i else 0
theorem QC(ps:List Nat)(mv:List Int)(send lean:Int)(k:Nat):(sD ps mv send lean k).length=6:=by simp[sD]
theorem TR {ps:List Nat}{mv:List Int}{send lean:Int}{k:Nat}(hk:k<6):zE (kA (sD ps mv send lean k)) k [.int .i64 (seenAt ps mv send lean k)]=kA (sD ps mv send lean (k+1)):=by
 rw[BL _ _ _ (by rw[rA,QC];exact hk)];apply List.ext_getElem?
 intro i;by_cases e:k=i
 ·subst e;rw[List.getElem?_set_self (by rw[rA,QC];exact hk)];simp[kA,sD,hk]
 ·rw[List.getElem?_set_ne e];by_cases hi:i<6
  ·simp only[kA,sD,List.getElem?_map,List.getElem?_range hi,Option.map_some];by_cases e2:i<k
   ·rw[if_pos e2,if_pos oM]
   ·rw[if_neg e2,if_neg oM]
  ·rw[List.getElem?_eq_none (by rw[rA,QC];omega),List.getElem?_eq_none (by rw[rA,QC];omega)]
section
variable(M:Md prog)(H:View)
theorem ZH(place number send lean:Int)(h1:0<=place)(h2:place<=6)(h3:0<=number)(h4:0<=send)(h5:send<=1000)(h6: -1000<=lean)(h7:lean<=1000):
  dA M 136 #[.agg ⟨[.int .i64 place,.int .i64 number]⟩,.int .i64 send,.int .i64 lean] H (fun v H'=> H.le H'/\v=.int .i64 (ND place number send lean)):=by
 refine .en func136 ntmps136 fun St c cs hK=> ?_;have h8:0<=2*place*send:=Int.mul_nonneg oM h4;have h9:2*place*send<=12*1000:=Int.mul_le_mul oM h5 h4 oM;refine U2 ?_;refine .bo fun b1=> ?_;refine U2 ?_;by_cases h:number%2=0
 ·refine U5 ?_;refine .i ?_ (z:=rem_in oM oM);refine U5 ?_;refine .x .ng ?_;refine U6 ?_;refine .i ?_ (z:=pD oM oM);refine U ?_;refine .i ?_ (z:=pD oM oM);refine U4 ?_;refine .rt hK func136 results136 [_] ?_;exact fun H' hs=> ⟨hs.base,by simp[OC,ND,h]<;> omega⟩
 ·refine U5 ?_;refine .i ?_ (z:=rem_in oM oM);refine U8 ?_;refine .i ?_ (z:=pD oM oM);refine U ?_;refine .i ?_ (z:=pD oM oM);refine U4 ?_;refine .rt hK func136 results136 [_] ?_;exact fun H' hs=> ⟨hs.base,by simp[OC,ND,h]<;> omega⟩
theorem bF {place number send lean:Int}(h1:0<=place)(h2:place<=6)(h4:0<=send)(h5:send<=1000)(h6: -1000<=lean)(h7:lean<=1000): -1000<=ND place number send lean/\ND place number send lean<=13000:=by
 have h8:0<=2*place*send:=Int.mul_nonneg oM h4;have h9:2*place*send<=12*1000:=Int.mul_le_mul oM h5 h4 oM;unfold ND;split <;> omega
theorem ZY(code send read lean:Int)(ps:List Nat)(mv:List Int)(eb eo ec vb vo vc:Nat)(f1 f2:Bool)(es vs:List Value)(et vt:TypeId)(ez vz:Nat×Nat)
  (hE:H eb=some (f1,.cells ⟨es⟩ et ez)) (QQ:∀i:Nat,i<ps.length->YB true 2 es (eo+i*2)=some (.agg ⟨[.int .i64 ((ps[i]?.getD 0:Nat):Int),.int .i64 (i:Nat)]⟩))
  (hV:H vb=some (f2,.cells ⟨vs⟩ vt vz)) (hV2:∀i:Nat,i<ps.length->YB false 1 vs (vo+i*1)=some (.int .i64 (mv[i]?.getD 0)))
  (hp:ps.length<=6) (eM:∀i:Nat,i<ps.length->ps[i]?.getD 0<=6) (IZ:∀i:Nat, -1000<=mv[i]?.getD 0/\mv[i]?.getD 0<=1000) (h4:0<=send) (h5:send<=1000) (h6: -1000<=lean) (h7:lean<=1000) (ml:Nat) (hml:ps.length<=ml):
  dA M 138 #[.agg ⟨[.int .i64 code,.slice (some ⟨eb,eo,none⟩) ps.length ec]⟩,.agg ⟨[.int .i64 send,.int .i64 read,.int .i64 lean,.slice (some ⟨vb,vo,none⟩) ml vc]⟩] H (fun v H'=> H.le H'/\v=pK (sD ps mv send lean ps.length)):=by
 refine .en func138 ntmps138 fun St c cs hK=> ?_;refine U2 ?_;refine .bo fun b2=> ?_;refine .bo fun b3=> ?_;refine .al fun b4=> ?_;refine U3 ?_;refine .al fun b5=> ?_;refine fH ?_;refine Tc.db (Tc.IA (σ:= { s:Nat×List Int//s.1<=ps.length/\s.2=sD ps mv send lean s.1 })
  (fun s=> ([(11,.int .i64 (s.1.1:Nat)),(10,.int .i64 ps.length),(9,.slice (some ⟨eb,eo,none⟩) ps.length ec),(2,.pointer (some ⟨b2,0,none⟩)),(3,.pointer (some ⟨b3,0,none⟩)),(4,.pointer (some ⟨b4,0,none⟩)),(5,.pointer (some ⟨b5,0,none⟩))],
   [(b5,true,.cells ⟨kA s.1.2⟩ 127 (0,0)),(b4,true,.cells ⟨[.int .i64 0,.int .i64 0,.int .i64 0,.int .i64 0,.int .i64 0,.int .i64 0]⟩ 127 (0,0)),
    (b3,true,.cells ⟨[.int .i64 send,.int .i64 read,.int .i64 lean,.slice (some ⟨vb,vo,none⟩) ml vc]⟩ 53 (0,0)),(b2,true,.cells ⟨[.int .i64 code,.slice (some ⟨eb,eo,none⟩) ps.length ec]⟩ 105 (0,0))])) (fun s=> ps.length-s.1.1) ?_ ⟨(0,[0,0,0,0,0,0]),by simp,rfl⟩)
 rintro⟨⟨k,cur⟩,g1,g2⟩ ih;simp only at g1 g2;have HB:(kA cur).length=6:=by rw[rA,g2,QC]
 show Tc M St _ _ _ _ [(11,.int .i64 (k:Nat)),(10,.int .i64 ps.length),(9,.slice (some ⟨eb,eo,none⟩) ps.length ec),(2,.pointer (some ⟨b2,0,none⟩)),(3,.pointer (some ⟨b3,0,none⟩)),(4,.pointer (some ⟨b4,0,none⟩)),(5,.pointer (some ⟨b5,0,none⟩))]
   [(b5,true,.cells ⟨kA cur⟩ 127 (0,0)),(b4,true,.cells ⟨[.int .i64 0,.int .i64 0,.int .i64 0,.int .i64 0,.int .i64 0,.int .i64 0]⟩ 127 (0,0)),
    (b3,true,.cells ⟨[.int .i64 send,.int .i64 read,.int .i64 lean,.slice (some ⟨vb,vo,none⟩) ml vc]⟩ 53 (0,0)),(b2,true,.cells ⟨[.int .i64 code,.slice (some ⟨eb,eo,none⟩) ps.length ec]⟩ 105 (0,0))] _ _
 by_cases c1:k=ps.length
 ·obtain⟨y0,y1,y2,y3,y4,y5,hy⟩:=six (show cur.length=6 by rw[<-rA];exact HB);subst hy;refine xK ?_;refine .rt hK func138 results138 [_] ?_;exact fun H' hs=> ⟨hs.base,by rw[<-c1,<-g2];rfl⟩
 ·have c2:k<ps.length:=by omega
  have k1:(k:Int).toNat=k:=by simp
  have f0:=QQ k c2;have f1:YB true 2 es (eo+(k:Int).toNat*2)=some (.agg ⟨[.int .i64 ((ps[k]?.getD 0:Nat):Int),.int .i64 (k:Nat)]⟩):=by rw[k1];exact f0
  have f4:YB false 1 vs (vo+(k:Int).toNat*1)=some (.int .i64 (mv[k]?.getD 0)):=by rw[k1];exact hV2 k c2
  have f2:zE (kA cur) (0+(k:Int).toNat*1) [.int .i64 (ND ((ps[k]?.getD 0:Nat):Int) (k:Nat) send lean+mv[k]?.getD 0)]=kA (sD ps mv send lean (k+1)):=by
   rw[show 0+(k:Int).toNat*1=k by simp,g2];exact TR oM
  have f3:Nat.ble (0+(k:Int).toNat*1+1) (kA cur).length=true:=Nat.ble_eq_true_of_le (by rw[HB];simp;omega);have b6:=eM k c2;have b7:=IZ k;have b8:=bF (place:=((ps[k]?.getD 0:Nat):Int)) (number:=(k:Nat)) oM oM h4 h5 h6 h7;refine yI ?_;refine .al fun b7=> ?_;refine U3 ?_;refine Tc.dr [14] [1] mixed rfl ?_;refine V6 0 ?_;refine .z 6 rfl (mA.tk fun H hs=> ZH M H (ps[k]?.getD 0:Nat) k send lean oM oM oM h4 h5 h6 h7) ?_;refine V7 7 ?_;refine .e 14 1 ?_;refine .dn ?_;refine U5 ?_;exact Tc.db (ih ⟨(k+1,sD ps mv send lean (k+1)),by simp only;omega,rfl⟩ (by simp only;omega))
end
def FD(p i:Nat):Value:=.agg ⟨[.int .i64 (p:Nat),.int .i64 (i:Nat)]⟩
theorem RF(p i:Nat):flat en 2 108 [.int .i64 (p:Nat),.int .i64 (i:Nat)]:=by
 refine⟨rfl,?_⟩;intro f hf;simp only[List.mem_cons,List.not_mem_nil,or_false] at hf;rcases hf with rfl|rfl
 ·exact⟨⟨_,rfl⟩,_,rfl,rfl,Nat.le_of_ble_eq_true rfl⟩
 ·exact⟨⟨_,rfl⟩,_,rfl,rfl,Nat.le_of_ble_eq_true rfl⟩
theorem YL(p i:Nat):XD en 2 108 (FD p i):=⟨_,_,rfl,rfl,RF p i⟩
theorem NV {p i q j:Nat}:FD p i=FD q j<->p=q/\i=j:=by
 simp only[FD,Value.agg.injEq,Array.mk.injEq,List.cons.injEq,Value.int.injEq,true_and,and_true];omega
theorem T5:prog.eqGuardType prog.depth 108=false:=by kernel_rfl
def EE(read mt after:Int):Nat->Int->List (Int×Int)
 | 0,_=> []
 | f+1,n=> if n<=mt then(YA read (after+n),n)::(if YA read (after+n)=7 then [] else EE read mt after f ((2*YA read (after+n)+1)*read+1-after)) else []
def eB(l:List (Int×Int)):List Value:=(l.map fun x=> [Value.int .i64 x.1,Value.int .i64 x.2]).flatten
theorem MK(pace after:Int):∀(f:Nat) (n:Int),n<=JB pace after f n/\JB pace after f n<=n+f/\(JB pace after f n<n+f->after<=(2*JB pace after f n+1)*pace)
 | 0,n=> ⟨by simp[JB],by simp[JB],fun h=> by simp[JB] at h⟩
 | f + 1,n=> by
  unfold JB;split
  ·obtain⟨h1,h2,h3⟩:=MK pace after f (n+1);exact⟨oM,oM,fun h=> h3 oM⟩
  ·rename_i h
   exact⟨oM,oM,fun _=> by omega⟩
theorem pC(pace after:Int):0<=YA pace after/\YA pace after<=7/\(YA pace after≠7->after<=(2*YA pace after+1)*pace):=by
 obtain⟨h1,h2,h3⟩:=MK pace after 7 0;exact⟨h1,by unfold YA;omega,fun h=> h3 (by have:=h2;simp only[YA] at h;omega)⟩
structure VA where
 code:Nat
 ps:List Nat
 send:Int
 read:Int
 lean:Int
 first:Int
 mf:Int
 mt:Int
def VA.after(s:VA)(p i:Nat):Int:=ND p i s.send s.lean-ND ((s.ps[0]?.getD 0:Nat):Int) 0 s.send s.lean-s.first
def VA.opts(s:VA)(p i:Nat):List (Int×Int):=if i=0 then [(0,s.first)] else EE s.read s.mt (s.after p i) (s.mt+1-s.mf).toNat s.mf
structure VA.Ok(s:VA):Prop where
 code:s.code<32
 ps0:0<s.ps.length
 ps6:s.ps.length<=6
 places:∀i:Nat,i<s.ps.length->s.ps[i]?.getD 0<=6
 send:0<=s.send/\s.send<=1000
 read:0<=s.read/\s.read<=1000
 lean: -1000<=s.lean/\s.lean<=1000
 first: -1000<=s.first/\s.first<=1000
 mf: -1000<=s.mf/\s.mf<=1000
 mt:s.mt<=1000
def VA.val(s:VA)(eb ec mb:Nat):Value:=.agg ⟨[.int .i64 s.code,.slice (some ⟨eb,0,none⟩) s.ps.length ec,.int .i64 s.send,.int .i64 s.read,.int .i64 s.lean,.int .i64 s.first,.int .i64 s.mf,.int .i64 s.mt,.map (some mb)]⟩
def eE(H:View)(s:VA)(eb:Nat):Prop:=
 ∃f es et ez,H eb=some (f,.cells ⟨es⟩ et ez)/\∀i:Nat,i<s.ps.length->YB true 2 es (0+i*2)=some (FD (s.ps[i]?.getD 0) i)
def cI(H:View)(s:VA)(es:List MapEntry):Prop:=∀e∈es,∃p i:Nat,e.key=FD p i/\gB H 2 e.val (s.opts p i).length (eB (s.opts p i))
theorem cI.keys {H:View}{s:VA}{es:List MapEntry}(h:cI H s es):∀e∈es,XD en 2 108 e.key:=fun e he=> by
 obtain⟨p,i,hk,_⟩:=h e he;rw[hk];exact YL p i
theorem qX {P:Program}{M:Md P}{St:View->Goroutine->Prop}{n:Nat}{b:FB}{H₀:View}{cs:List Frame}{R:Rg}{L:Bl}{ds:List Deferred}{k:List Item}{id:Nat}{x:Code}(F:Rg->Bl->Prop)(hF:∀R L,F R L->Tc M St n b H₀ cs R L ds k)
 (h:(∀R L,F R L->Tc M St n b H₀ cs R L ds k)->Tc M St n b H₀ cs R L ds (.code x:: .inBlock id::k)):Tc M St n b H₀ cs R L ds (.code (.block id x)::k):=.block (h hF)
theorem zG(l:List (Int×Int)):(eB l).length=l.length*2:=by
 induction l with
 | nil=> rfl
 | cons x l ih=> simp only[eB,List.map_cons,List.flatten_cons,List.length_append,List.length_cons,List.length_nil] at ih ⊢;omega
theorem qI(x:Int×Int)(l:List (Int×Int)):eB (x::l)= [.int .i64 x.1,.int .i64 x.2]++eB l:=by simp[eB]
theorem NX {e:TypeId}{sz:Nat}(g:Gl e sz):g.bl= []\/∃b x,g.bl= [(b,x)]:=by
 unfold Gl.bl;cases g.blk with
 | none=> exact .inl rfl
 | some b=> exact .inr ⟨b,_,rfl⟩
theorem LQ {H H':View}{mb:Nat}{L:Bl}{i j b:Nat}{x y:Bool×Obj}(hs:eA (H.xA mb) L H')(hi:L[i]? =some (b,x))(hj:L[j]? =some (mb,y))(xN:i≠j):H b=none/\b≠mb:=by
 have aB:b≠mb:=by
  rintro rfl;exact xN (yG hs.nodup hi hj)
 have h1:=hs.out _ (List.mem_of_getElem? hi);rw[KA aB] at h1;exact⟨h1,aB⟩
theorem cI.mono {H H':View}{s:VA}{l:List MapEntry}(h:cI H s l)(k:H.le H'):cI H' s l:=fun e he=> by
 obtain⟨p,i,h1,h2⟩:=h e he;exact⟨p,i,h1,h2.mono k⟩
def iN(s:VA)(p i mb:Nat)(Hm H:View)(v:Value)(H':View):Prop:=
 (∀b x,b≠mb->H b=some x->H' b=some x)/\∃Hm' es' cl',Hm'.le H'/\(∀b x,Hm' b=some x->Hm b=some x\/H b=none)/\Hm.le Hm'/\Hm' mb=none/\
  gB Hm' 2 v (s.opts p i).length (eB (s.opts p i))/\H' mb=some (true,.map es' cl')/\cI Hm' s es'.toList
theorem iN.put {s:VA}{p i mb b:Nat}{x:Bool×Obj}{Hm H H':View}{v:Value}{es':Array MapEntry}{cl':Nat}(h1:∀b x,b≠mb->H b=some x->H' b=some x)(hle:Hm.le H)(cN:Hm mb=none)(hb:H b=none)(aB:b≠mb)(hx:H' b=some x)
  (h2:gB (Hm.put b x) 2 v (s.opts p i).length (eB (s.opts p i))) (h3:H' mb=some (true,.map es' cl')) (h4:cI (Hm.put b x) s es'.toList):iN s p i mb Hm H v H':=by
 have hn:Hm b=none:=by
  cases h:Hm b with
  | none=> rfl
  | some y=> rw[hle _ _ h] at hb;cases hb
 refine⟨h1,Hm.put b x,es',cl',fun c y hc=> ?_,fun c y hc=> ?_,View.kM x hn,by rw[View.jA _ _ (Ne.symm aB)];exact cN,h2,h3,h4⟩
 ·by_cases e:c=b
  ·subst e;rw[View.pA] at hc;cases hc
   exact hx
  ·rw[View.jA _ _ e] at hc;exact h1 c y (fun e=> by rw[e,cN] at hc;cases hc) (hle _ _ hc)
 ·by_cases e:c=b
  ·subst e;exact .inr hb
  ·rw[View.jA _ _ e] at hc;exact .inl hc
theorem iN.same {s:VA}{p i mb:Nat}{Hm H H':View}{v:Value}{es':Array MapEntry}{cl':Nat}(h1:∀b x,b≠mb->H b=some x->H' b=some x)(hle:Hm.le H)(cN:Hm mb=none)
  (h2:gB Hm 2 v (s.opts p i).length (eB (s.opts p i))) (h3:H' mb=some (true,.map es' cl')) (h4:cI Hm s es'.toList):iN s p i mb Hm H v H':=
 ⟨h1,Hm,es',cl',fun c y hc=> h1 c y (fun e=> by rw[e,cN] at hc;cases hc) (hle _ _ hc),fun _ _ h=> .inl h,View.le_refl _,cN,h2,h3,h4⟩
section
variable(M:Md prog)(H:View)
theorem kO(s:VA)(LB:s.Ok)(eb ec mb:Nat)(es:Array MapEntry)(cl p i:Nat)(hE:eE H s eb)(hM:H mb=some (true,.map es cl))(Hm:View)(hm:cI Hm s es.toList)(hle:Hm.le H)(cN:Hm mb=none)(hi:i<s.ps.length)(hp:p=s.ps[i]?.getD 0):
  dA M 122 #[s.val eb ec mb,FD p i] H (iN s p i mb Hm H):=by
 obtain⟨f,ec',et,ez,SS,QQ⟩:=hE;have aB:eb≠mb:=by rintro rfl;rw[SS] at hM;cases hM
 have hE0:(H.xA mb) eb=some (f,.cells ⟨ec'⟩ et ez):=by rw[KA aB];exact SS
 have hq:=QQ 0 LB.ps0;have HU:∀(H':View),(H.xA mb).le H'->∀b x,b≠mb->H b=some x->H' b=some x:=fun H' hle b x hb hx=> hle b x (by rw[KA hb];exact hx);refine dA.enter (vs:= [s.val eb ec mb,FD p i]) func122 rfl ntmps122 (Nat.le_of_ble_eq_true rfl) (eA.pull hM) fun St c cs hK=> ?_;refine U2 ?_;refine .bo fun b2=> ?_;refine .bo fun b3=> ?_;refine U4 ?_;have X7:decide (i=0)=true<-> [Value.int .i64 (p:Nat),.int .i64 (i:Nat)]= [.int .i64 ((s.ps[0]?.getD 0:Nat):Int),.int .i64 ((0:Nat):Int)]:=by
  simp only[decide_eq_true_eq,List.cons.injEq,Value.int.injEq,true_and,and_true];constructor
  ·rintro rfl;rw[hp];simp
  ·rintro⟨_,h⟩;omega
 by_cases VV:i=0
 ·subst VV;refine Tc.dr [] [] mixed rfl ?_;refine V6 0 ?_;refine .q 6 rfl (mA.eqA (E:=en) true 2 rfl rfl rfl rfl rfl T5 dE (RF p 0) (RF (s.ps[0]?.getD 0) 0) X7) ?_;refine .dn ?_;refine U6 ?_;refine .e (.bs (zz:=fun bs=> ?_));refine U2 ?_;refine .rt hK func122 results122 [_] ?_;intro H' hs;obtain⟨f1,f2⟩:=LQ hs (i:=0) (j:=3) rfl rfl dE;have hn:Hm bs=none:=by
   cases h:Hm bs with
   | none=> rfl
   | some y=> rw[hle _ _ h] at f1;cases f1
  exact iN.put (HU H' hs.base) hle cN f1 f2 (hs.get (i:=0) rfl) ⟨⟨_,_,rfl⟩,rfl,.inr ⟨bs,0,1,true,_,_,_,rfl,View.pA ..,Nat.le_of_ble_eq_true rfl,rfl⟩⟩ (hs.get (i:=3) rfl) (hm.mono (View.kM _ hn))
 ·rw[decide_eq_false VV] at X7;refine Tc.dr [] [] mixed rfl ?_;refine V6 0 ?_;refine .q 6 rfl (mA.eqA (E:=en) false 2 rfl rfl rfl rfl rfl T5 dE (RF p i) (RF (s.ps[0]?.getD 0) 0) X7) ?_;refine .dn ?_;refine U7 ?_;refine .e (Or.lookup (E:=en) 2 rfl rfl rfl (fun H' hs=> ⟨true,hs.get (i:=2) rfl⟩) rfl rfl rfl dE (YL p i) hm.keys rfl dE (fun r hr=> ?_));cases r with
  | some x=>
   obtain⟨j,v⟩:=x;obtain⟨e,h1,h2,rfl⟩:=hr;obtain⟨q,k,h3,h4⟩:=hm e (List.mem_of_getElem? h1);rw[h2] at h3;obtain⟨rfl,rfl⟩:=NV.1 h3;refine PW ?_;refine .rt hK func122 results122 [_] ?_;exact fun H' hs=> iN.same (HU H' hs.base) hle cN h4 (hs.get (i:=2) rfl) hm
  | none=>
   have p1:=LB.places i hi;rw[<-hp] at p1;have p0:=LB.places 0 LB.ps0;obtain⟨s1,s2⟩:=LB.send;obtain⟨l1,l2⟩:=LB.lean;obtain⟨q1,q2⟩:=LB.first;have b1:=bF (place:=(p:Nat)) (number:=(i:Nat)) oM oM s1 s2 l1 l2;have b0:=bF (place:=((s.ps[0]?.getD 0:Nat):Int)) (number:=0) oM oM s1 s2 l1 l2;refine yI ?_;refine Tc.dr [] [] mixed rfl ?_;refine V5 0 ?_;refine .z 5 rfl (mA.tk fun H hs=> ZH M H p i s.send s.lean oM oM oM s1 s2 l1 l2) ?_;refine V9 6 ?_;refine .z 15 rfl (mA.tk fun H hs=> ZH M H (s.ps[0]?.getD 0:Nat) 0 s.send s.lean oM oM oM s1 s2 l1 l2) ?_;refine V5 16 ?_;refine .dn ?_;refine U8 ?_;have w1: -16000<=s.after p i/\s.after p i<=16000:=by unfold VA.after;omega
   have aBg:s.opts p i=EE s.read s.mt (s.after p i) (s.mt+1-s.mf).toNat s.mf:=by unfold VA.opts;rw[if_neg VV]
   have mf1:=LB.mf;have mt1:=LB.mt;obtain⟨r1,r2⟩:=LB.read;refine qX (fun R' L'=> ∃g:Gl 210 2,g.l=eB (s.opts p i)/\R'= [(5,g.val),(2,.pointer (some ⟨b2,0,none⟩)),(3,.pointer (some ⟨b3,0,none⟩))]/\
    L'=(b3,true,.cells ⟨(FD p i).cells.toList⟩ 108 (0,0))::(b2,true,.cells ⟨(s.val eb ec mb).cells.toList⟩ 165 (0,0))::(mb,true,.map es cl)::g.bl) ?_ (fun fin=> ?_)
   ·rintro _ _ ⟨g,hg,rfl,rfl⟩;refine U6 ?_;refine .e (Or.mapUpdate (E:=en) 2 2 rfl rfl rfl rfl rfl rfl rfl dE (YL p i) hm.keys rfl (fun r rF=> ?_));refine U6 ?_;refine .rt hK func122 results122 [_] ?_;intro H' hs;have hlen:g.n=(s.opts p i).length:=by
     have h3:=g.hl;rw[hg,zG] at h3;omega
    have vG:∀Hv:View,(∀y∈g.bl,Hv y.1=some y.2)->gB Hv 2 g.val (s.opts p i).length (eB (s.opts p i)):=fun Hv hv=> by
     have h1:=g.src (H:=Hv) hv;rw[hlen,hg] at h1;exact h1
    cases r with
    | some x=>
     obtain⟨j,w⟩:=x;obtain⟨e,h1,h2,_⟩:=rF;exact absurd h2 (hr e (List.mem_of_getElem? h1))
    | none=>
     have WC:∀Hv:View,Hm.le Hv->gB Hv 2 g.val (s.opts p i).length (eB (s.opts p i))->cI Hv s (es.push ⟨FD p i,g.val,cl⟩).toList:=fun Hv hv ZV e he=> by
      simp only[Array.toList_push,List.mem_append,List.mem_singleton] at he;rcases he with he|rfl
      ·exact hm.mono hv e he
      ·exact⟨p,i,rfl,ZV⟩
     rcases NX g with h0|⟨gb,gx,h0⟩
     ·have h5:=vG Hm (by rw[h0];simp);exact iN.same (HU H' hs.base) hle cN h5 (hs.get (i:=2) rfl) (WC Hm (View.le_refl _) h5)
     ·rw[h0] at hs;obtain⟨f1,f2⟩:=LQ hs (i:=3) (j:=2) rfl rfl dE;have hn:Hm gb=none:=by
       cases h:Hm gb with
       | none=> rfl
       | some y=> rw[hle _ _ h] at f1;cases f1
      have h5:=vG (Hm.put gb gx) (by rw[h0];simp[View.pA]);exact iN.put (HU H' hs.base) hle cN f1 f2 (hs.get (i:=3) rfl) h5 (hs.get (i:=2) rfl) (WC _ (View.kM _ hn) h5)
   ·refine Tc.db (Tc.IA (σ:= { x:Int×Nat×Gl 210 2 // -1000<=x.1/\x.1<=40000/\(s.mt+1-x.1).toNat<=x.2.1/\x.2.2.n+x.2.1<=5000/\x.2.2.l++eB (EE s.read s.mt (s.after p i) x.2.1 x.1)=eB (s.opts p i) })
     (fun x=> ([(8,.int .i64 x.1.1),(7,.int .i64 (s.after p i)),(5,x.1.2.2.val),(2,.pointer (some ⟨b2,0,none⟩)),(3,.pointer (some ⟨b3,0,none⟩))],
      (b3,true,.cells ⟨(FD p i).cells.toList⟩ 108 (0,0))::(b2,true,.cells ⟨(s.val eb ec mb).cells.toList⟩ 165 (0,0))::(mb,true,.map es cl)::x.1.2.2.bl)) (fun x=> x.1.2.1) ?_
     ⟨(s.mf,(s.mt+1-s.mf).toNat,Gl.nil 210 2),mf1.1,by show s.mf<=_;omega,Nat.le_refl _,by show 0+(s.mt+1-s.mf).toNat<=_;omega,by rw[aBg];rfl⟩)
    rintro⟨⟨n,f,g⟩,g1,g2,g3,g4,g5⟩ ih;simp only at g1 g2 g3 g4 g5;show Tc M St _ _ _ _ [(8,.int .i64 n),(7,.int .i64 (s.after p i)),(5,g.val),(2,.pointer (some ⟨b2,0,none⟩)),(3,.pointer (some ⟨b3,0,none⟩))]
      ((b3,true,.cells ⟨(FD p i).cells.toList⟩ 108 (0,0))::(b2,true,.cells ⟨(s.val eb ec mb).cells.toList⟩ 165 (0,0))::(mb,true,.map es cl)::g.bl) _ _
    by_cases c1:n<=s.mt
    ·obtain⟨f,rfl⟩:∃f',f=f'+1:=⟨f-1,oM⟩
     obtain⟨m1,m2,m3⟩:=pC s.read (s.after p i+n);have hc:=qR M H s.read (s.after p i+n) oM oM;unfold EE at g5;rw[if_pos c1,qI,<-List.append_assoc] at g5;generalize hmm:YA s.read (s.after p i+n)=m at m1 m2 m3 g5;have x1:0<=(2*m+1)*s.read:=Int.mul_nonneg oM oM;have x2:(2*m+1)*s.read<=15*1000:=Int.mul_le_mul oM r2 oM oM;refine wS ?_;refine .cl (fun H hs=> hmm▸qR M H s.read (s.after p i+n) oM oM) ?_;refine U2 ?_;refine .al fun b9=> ?_;refine U6 ?_;refine .e (.bs (zz:=fun bs=> ?_));refine .e (Or.append (E:=en) 5 rfl rfl rfl rfl rfl rfl rfl rfl rfl rfl rfl rfl rfl rfl rfl (fun H hs=> gB.of (hs.get (i:=0) rfl) (Nat.le_of_ble_eq_true rfl)) rfl oM rfl dE (fun g' hn hl=> ?_));refine U2 ?_;have O7:g'.l=g.l++[.int .i64 m,.int .i64 n]:=hl;refine U2 ?_;by_cases c7:m=7
     ·subst c7;rw[if_pos rfl] at g5;have wC:g'.l=eB (s.opts p i):=by
       rw[O7,<-g5];simp[eB]
      refine U7 ?_;have hf:=fin _ _ ⟨g',wC,rfl,rfl⟩;exact Tc.db hf
     ·rw[if_neg c7] at g5;refine fH ?_;refine .i ?_ (z:=pD oM oM);refine U3 ?_;refine .i ?_ (z:=pD oM oM);refine U6 ?_;have x3:=m3 c7;exact Tc.db (ih ⟨((2*m+1)*s.read+1-s.after p i,f,g'),by simp only;omega,by simp only;omega,by simp only;omega,by simp only;omega,by simp only;rw[O7];exact g5⟩ (by simp))
    ·have c2:EE s.read s.mt (s.after p i) f n= []:=by
      cases f with
      | zero=> rfl
      | succ f=> unfold EE;rw[if_neg c1]
     rw[c2] at g5;refine fF ?_;exact Tc.db (fin _ _ ⟨g,by simpa [eB] using g5,rfl,rfl⟩)
end
structure Lk where
 s0:Int
 s1:Int
 r0:Int
 r1:Int
 l0:Int
 l1:Int
 m0:Int
 m1:Int
def Lk.val(k:Lk):Value:=.agg ⟨[.int .i64 k.s0,.int .i64 k.s1,.int .i64 k.r0,.int .i64 k.r1,.int .i64 k.l0,.int .i64 k.l1,.int .i64 k.m0,.int .i64 k.m1]⟩
def oB(a b:Int):Bool:=decide (1<=a/\a<=b/\b<=40/\b-a<3)
def oD(a b:Int):Bool:=decide (-9<=a/\a<=b/\b<=9/\b-a<3)
def JD(a b:Int):Bool:=decide (-12<=a/\a<=b/\b<=12/\b-a<25)
def Lk.sends(k:Lk):Bool:=oB k.s0 k.s1
def Lk.reads(k:Lk):Bool:=oB k.r0 k.r1
def Lk.gR(k:Lk):Bool:=oD k.l0 k.l1
def Lk.rR(k:Lk):Bool:=JD k.m0 k.m1
section
variable(M:Md prog)(H:View)
theorem UH(a b:Int):dA M 71 #[WB a b] H (fun v H'=> H.le H'/\v=.bool (decide (1<=a/\a<=b/\b<=40/\b-a<3))):=by
 refine .en func71 ntmps71 fun St c cs hK=> ?_;refine U2 ?_;refine .bo fun b1=> ?_;refine U5 ?_;refine .cl (fun H hs=> eD M H a b) ?_;refine .cl (fun H hs=> aN M H a b 1 40 3 oM oM) ?_;refine U2 ?_;refine .rt hK func71 results71 [_] ?_;exact okB
theorem P4(k:Lk):dA M 264 #[k.val] H (fun v H'=> H.le H'/\v=.bool k.sends):=by
 refine .en func264 ntmps264 fun St c cs hK=> ?_;refine U2 ?_;refine .bo fun b1=> ?_;refine U7 ?_;refine .cl (fun H hs=> UH M H k.s0 k.s1) ?_;refine U2 ?_;refine .rt hK func264 results264 [_] ?_;exact okB
theorem L4(k:Lk):dA M 265 #[k.val] H (fun v H'=> H.le H'/\v=.bool k.reads):=by
 refine .en func265 ntmps265 fun St c cs hK=> ?_;refine U2 ?_;refine .bo fun b1=> ?_;refine U7 ?_;refine .cl (fun H hs=> UH M H k.r0 k.r1) ?_;refine U2 ?_;refine .rt hK func265 results265 [_] ?_;exact okB
theorem K3(k:Lk):dA M 259 #[k.val] H (fun v H'=> H.le H'/\v=.bool k.gR):=by
 refine .en func259 ntmps259 fun St c cs hK=> ?_;refine U2 ?_;refine .bo fun b1=> ?_;refine U8 ?_;refine .cl (fun H hs=> eD M H k.l0 k.l1) ?_;refine .cl (fun H hs=> aN M H k.l0 k.l1 (-9) 9 3 oM oM) ?_;refine U2 ?_;refine .rt hK func259 results259 [_] ?_;exact okB
theorem X3(k:Lk):dA M 266 #[k.val] H (fun v H'=> H.le H'/\v=.bool k.rR):=by
 refine .en func266 ntmps266 fun St c cs hK=> ?_;refine U2 ?_;refine .bo fun b1=> ?_;refine U8 ?_;refine .cl (fun H hs=> eD M H k.m0 k.m1) ?_;refine .cl (fun H hs=> aN M H k.m0 k.m1 (-12) 12 25 oM oM) ?_;refine U2 ?_;refine .rt hK func266 results266 [_] ?_;exact okB
def xC(p:Nat->Bool):Nat->Bool
 | 0=> true
 | k+1=> xC p k&&p k
theorem xQ {p:Nat->Bool}{k:Nat}(h:xC p k=false):∀m,k<=m->xC p m=false:=by
 intro m hm;induction m with
 | zero=>
  have:k=0:=by omega
  subst this;exact h
 | succ m ih=>
  by_cases e:k=m+1
  ·subst e;exact h
  ·rw[xC,ih oM];rfl
theorem xU(kv:List Value)(gb off m cc:Nat)(f:Bool)(gs:List Value)(gt:TypeId)(gz:Nat×Nat)(fv:Nat->Value)(p:Nat->Bool)(hm:m<=1000)(hk8:kv.length=8)(hG:H gb=some (f,.cells ⟨gs⟩ gt gz))(D7:∀i:Nat,i<m->YB false 1 gs (off+i*1)=some (fv i))
  (hp:∀i:Nat,i<m->∀H',H.le H'->TC M (fv i) [.agg ⟨kv⟩] H' fun v H''=> H'.le H''/\v=.bool (p i)):
  dA M 88 #[.agg ⟨kv⟩,.slice (some ⟨gb,off,none⟩) m cc] H (fun v H'=> H.le H'/\v=.int .i64 (if xC p m then 0 else 1)):=by
 obtain⟨a0,a1,a2,a3,a4,a5,a6,a7,rfl⟩:∃a0 a1 a2 a3 a4 a5 a6 a7,kv= [a0,a1,a2,a3,a4,a5,a6,a7]:=by
  match kv,hk8 with
  | [a0,a1,a2,a3,a4,a5,a6,a7],_=> exact⟨a0,a1,a2,a3,a4,a5,a6,a7,rfl⟩
 refine .en func88 ntmps88 fun St c cs hK=> ?_;refine U2 ?_;refine .bo fun b2=> ?_;refine fH ?_;refine Tc.db (Tc.IA (σ:= { k:Nat//k<=m/\xC p k=true })
  (fun s=> ([(9,.int .i64 (s.1:Nat)),(8,.int .i64 m),(7,.slice (some ⟨gb,off,none⟩) m cc),(2,.pointer (some ⟨b2,0,none⟩))],[(b2,true,.cells ⟨[a0,a1,a2,a3,a4,a5,a6,a7]⟩ 112 (0,0))])) (fun s=> m-s.1) ?_ ⟨0,by simp,rfl⟩)
 rintro⟨k,g1,g2⟩ ih;show Tc M St _ _ _ _ [(9,.int .i64 (k:Nat)),(8,.int .i64 m),(7,.slice (some ⟨gb,off,none⟩) m cc),(2,.pointer (some ⟨b2,0,none⟩))] [(b2,true,.cells ⟨[a0,a1,a2,a3,a4,a5,a6,a7]⟩ 112 (0,0))] _ _;by_cases c1:k=m
 ·subst c1;refine fF ?_;refine .rt hK func88 results88 [_] ?_;exact fun H' hs=> ⟨hs.base,by rw[g2];rfl⟩
 ·have c2:k<m:=by omega
  have f1:YB false 1 gs (off+(k:Int).toNat*1)=some (fv k):=by rw[show(k:Int).toNat=k by simp];exact D7 k c2
  cases JZ:p k with
  | true=>
   refine wS ?_;refine .c rfl rfl rfl rfl (fun H hs=> JZ▸hp k c2 H hs.base) ?_;refine U9 ?_;exact Tc.db (ih ⟨k+1,oM,by rw[xC,g2,JZ];rfl⟩ (by simp only;omega))
  | false=>
   have h2:=xQ (p:=p) (k:=k+1) (by rw[xC,JZ];simp) m oM;refine wS ?_;refine .c rfl rfl rfl rfl (fun H hs=> JZ▸hp k c2 H hs.base) ?_;refine U7 ?_;refine .rt hK func88 results88 [_] ?_;exact fun H' hs=> ⟨hs.base,by rw[h2];rfl⟩
end
def SL(i:Nat):Value:=.func (.func ([264,265,259,266][i]?.getD 0)) #[] #[]
def nC(H:View):Prop:=∃f gt gz,H 0=some (f,.cells ⟨[SL 0,SL 1,SL 2,SL 3]⟩ gt gz)
def Lk.D1(k:Lk)(i:Nat):Bool:= [k.sends,k.reads,k.gR,k.rR][i]?.getD true
def Lk.ok(k:Lk):Bool:=xC k.D1 4
def Lk.pH(k:Lk):Bool:=xC (fun i=> k.D1 (2+i)) 2
section
variable(M:Md prog)(H:View)
theorem L5(k:Lk)(i:Nat)(hi:i<4)(H':View):TC M (SL i) [k.val] H' fun v H''=> H'.le H''/\v=.bool (k.D1 i):=by
 match i,hi with
 | 0,_=> exact TC.h (P4 M H' k)
 | 1,_=> exact TC.h (L4 M H' k)
 | 2,_=> exact TC.h (K3 M H' k)
 | 3,_=> exact TC.h (X3 M H' k)
theorem FQ(k:Lk)(hG:nC H):dA M 49 #[k.val] H (fun v H'=> H.le H'/\v=.int .i64 (if k.ok then 0 else 1)):=by
 obtain⟨f,gt,gz,hG⟩:=hG;refine .en func49 ntmps49 fun St c cs hK=> ?_;refine U2 ?_;refine .bo fun b1=> ?_;refine U3 ?_;refine Tc.dr [] [] mixed rfl ?_;refine V2 0 ?_;refine .q 2 rfl (mA.YI (E:=en) (off':=0) rfl rfl rfl rfl rfl rfl rfl rfl dE dE dE (by rw[if_neg dE];rfl)) ?_;refine .z 3 rfl (mA.tk fun H hs=> xU M H _ 0 0 4 4 f _ gt gz SL k.D1 oM rfl (hs.base _ _ hG) (fun i hi=> by match i,hi with|0,_=> rfl|1,_=> rfl|2,_=> rfl|3,_=> rfl) (fun i hi H' _=> L5 M k i hi H')) ?_;refine .nn 4 ?_;refine .dn ?_;refine .rt hK func49 results49 [_] ?_;exact okB
theorem oF(x y z u:Int)(hG:nC H):dA M 111 #[.agg ⟨[.int .i64 x,.int .i64 y,.int .i64 z,.int .i64 u]⟩] H (fun v H'=> H.le H'/\v=.int .i64 (if(⟨0,0,0,0,x,y,z,u⟩:Lk).pH then 0 else 1)):=by
 obtain⟨f,gt,gz,hG⟩:=hG;refine .en func111 ntmps111 fun St c cs hK=> ?_;refine U2 ?_;refine .bo fun b1=> ?_;refine U3 ?_;refine Tc.dr [] [] mixed rfl ?_;refine V3 0 ?_;refine .q 3 rfl (mA.YI (E:=en) (off':=2) rfl rfl rfl rfl rfl rfl rfl rfl dE dE dE (by rw[if_neg dE];rfl)) ?_;refine .z 4 rfl (mA.tk fun H hs=> xU M H _ 0 2 2 2 f _ gt gz (fun i=> SL (2+i)) (fun i=> (⟨0,0,0,0,x,y,z,u⟩:Lk).D1 (2+i)) oM rfl (hs.base _ _ hG) (fun i hi=> by match i,hi with|0,_=> rfl|1,_=> rfl) (fun i hi H' _=> L5 M ⟨0,0,0,0,x,y,z,u⟩ (2+i) oM H')) ?_;refine .nn 5 ?_;refine .dn ?_;refine .rt hK func111 results111 [_] ?_;exact okB
end
theorem tB {e:TypeId}{sz:Nat}(g:Gl e sz):(g.bl.map (·.1)).Nodup:=by
 unfold Gl.bl;split <;> simp
def xL(code:Nat)(g:Gl 108 2):Value:=.agg ⟨[.int .i64 code,g.val]⟩
theorem zA {H H':View}(h:nC H)(k:H.le H'):nC H':=by
 obtain⟨f,gt,gz,h⟩:=h;exact⟨f,gt,gz,k _ _ h⟩
section
variable(M:Md prog)(H:View)
theorem JC(k:Lk)(hG:nC H)(h:k.ok=true):dA M 49 #[k.val] H (fun v H'=> H.le H'/\v=.int .i64 0):=
 dA.mono (FQ M H k hG) fun v H' ⟨h1,h2⟩=> ⟨h1,by rw[h2,h];rfl⟩
theorem iM(x:Int)(h:0<=x/\x<=31):dA M 47 #[.int .i64 x] H (fun v H'=> H.le H'/\v=.bool true):=
 dA.mono (kY M H x) fun v H' ⟨h1,h2⟩=> ⟨h1,by rw[h2,decide_eq_true h]⟩
theorem xR(k:Lk)(code:Nat)(hG:nC H)(hk:k.ok=true)(hc:code<32):dA M 52 #[k.val,.int .i64 code] H (fun v H'=> H.le H'/\∃g:Gl 108 2,v=.tuple ⟨[k.val,xL code g,.int .i64 0]⟩/\(g.n=(bA code 7).length/\g.l=qB (bA code 7))/\∀y∈g.bl,H' y.1=some y.2/\H y.1=none):=by
 refine .en func52 ntmps52 fun St c cs hK=> ?_;refine U2 ?_;refine .bo fun b2=> ?_;refine .al fun b4=> ?_;refine .al fun b5=> ?_;refine U6 ?_;refine .cl (fun H hs=> JC M H k (zA hG hs.base) hk) ?_;refine yK ?_;refine .cl (fun H hs=> iM M H code oM) ?_;refine U5 ?_;refine Tc.dr [4,5] [0,1] mixed rfl ?_;refine V2 0 ?_;refine .nw 2 ?_;refine .ea 3 rfl (Or.EA (xL code) Gl.bl (fun g=> g.n=(bA code 7).length/\g.l=qB (bA code 7)) rfl rfl rfl rfl rfl dE tB (fun H hs=> .h (dA.mono (NI M H code hc) (by rintro v H' ⟨h1,g,h2,h3,h4,h5⟩;exact⟨h1,g,h2,⟨h3,h4⟩,h5⟩))) (fun g hg=> ⟨S2.mk sL (.inr sL),?_⟩));refine .e 4 1 ?_;refine .e 5 0 ?_;refine .nw 6 ?_;refine .dn ?_;refine .rt hK func52 results52 [_,_,_] ?_;exact fun H' hs=> ⟨hs.base,g,rfl,hg,fun y hy=> ⟨hs.at_ y (List.mem_cons_of_mem _ (List.mem_cons_of_mem _ (List.mem_cons_of_mem _ hy))),hs.out y (List.mem_cons_of_mem _ (List.mem_cons_of_mem _ (List.mem_cons_of_mem _ hy)))⟩⟩
end
def IF(x:Nat->Int):Nat->Int
 | 0=> 0
 | k+1=> IF x k+x k
theorem OJ {x:Nat->Int}{m:Nat}(h:∀i,i<m-> -1000000<=x i/\x i<=1000000):∀k,k<=m-> -1000000*(k:Int)<=IF x k/\IF x k<=1000000*(k:Int)
 | 0,_=> by simp[IF]
 | k+1,hk=> by
  have h1:=OJ h k oM;have h2:=h k oM;simp only[IF];omega
def CE(x y z u:Int):Value:=.agg ⟨[.int .i64 x,.int .i64 y,.int .i64 z,.int .i64 u]⟩
section
variable(M:Md prog)(H:View)
theorem j8(gb off m cc:Nat)(f:Bool)(gs:List Value)(gt:TypeId)(gz:Nat×Nat)(x y z u:Nat->Int)(hm:m<=1000)(hG:H gb=some (f,.cells ⟨gs⟩ gt gz))(D7:∀i:Nat,i<m->YB true 4 gs (off+i*4)=some (CE (x i) (y i) (z i) (u i)))
  (hx:∀i,i<m-> -1000000<=x i/\x i<=1000000) (hy:∀i,i<m-> -1000000<=y i/\y i<=1000000) (hz:∀i,i<m-> -1000000<=z i/\z i<=1000000) (hu:∀i,i<m-> -1000000<=u i/\u i<=1000000):
  dA M 152 #[.slice (some ⟨gb,off,none⟩) m cc] H (fun v H'=> H.le H'/\v=CE (IF x m) (IF y m) (IF z m) (IF u m)):=by
 refine .en func152 ntmps152 fun St c cs hK=> ?_;refine U2 ?_;refine .al fun b2=> ?_;refine U3 ?_;refine .al fun b3=> ?_;refine U9 ?_;refine Tc.db (Tc.IA (σ:= { k:Nat//k<=m })
  (fun s=> ([(8,.int .i64 (s.1:Nat)),(7,.int .i64 m),(6,.slice (some ⟨gb,off,none⟩) m cc),(2,.pointer (some ⟨b2,0,none⟩)),(3,.pointer (some ⟨b3,0,none⟩))],
   [(b3,true,.cells ⟨[.int .i64 (IF x s.1),.int .i64 (IF y s.1),.int .i64 (IF z s.1),.int .i64 (IF u s.1)]⟩ 38 (0,0)),(b2,true,.cells ⟨[.int .i64 0,.int .i64 0,.int .i64 0,.int .i64 0]⟩ 38 (0,0))])) (fun s=> m-s.1) ?_ ⟨0,by simp⟩)
 rintro⟨k,g1⟩ ih;show Tc M St _ _ _ _ [(8,.int .i64 (k:Nat)),(7,.int .i64 m),(6,.slice (some ⟨gb,off,none⟩) m cc),(2,.pointer (some ⟨b2,0,none⟩)),(3,.pointer (some ⟨b3,0,none⟩))]
   [(b3,true,.cells ⟨[.int .i64 (IF x k),.int .i64 (IF y k),.int .i64 (IF z k),.int .i64 (IF u k)]⟩ 38 (0,0)),(b2,true,.cells ⟨[.int .i64 0,.int .i64 0,.int .i64 0,.int .i64 0]⟩ 38 (0,0))] _ _
 by_cases c1:k=m
 ·subst c1;refine xK ?_;refine .rt hK func152 results152 [_] ?_;exact okB
 ·have c2:k<m:=by omega
  have f1:YB true 4 gs (off+(k:Int).toNat*4)=some (CE (x k) (y k) (z k) (u k)):=by rw[show(k:Int).toNat=k by simp];exact D7 k c2
  have x1:=OJ hx k g1;have x2:=hx k c2;have y1:=OJ hy k g1;have y2:=hy k c2;have z1:=OJ hz k g1;have z2:=hz k c2;have u1:=OJ hu k g1;have u2:=hu k c2;refine yK ?_;refine .al fun b5=> ?_;refine U58 ?_;exact Tc.db (ih ⟨k+1,oM⟩ (by simp only;omega))
end
set_option maxHeartbeats 4000000
def VD(a b:Int):List Int:=(List.range (b+1-a).toNat).map fun i=> a+(i:Nat)
theorem uZ {a b:Int}(h:b<a):VD a b= []:=by
 unfold VD;rw[show(b+1-a).toNat=0 by omega];rfl
theorem HW {a b:Int}(h:a<=b):VD a b=a::VD (a+1) b:=by
 unfold VD;rw[show(b+1-a).toNat=(b+1-(a+1)).toNat+1 by omega,List.range_succ_eq_map];simp only[List.map_cons,List.map_map,List.cons.injEq];refine⟨by simp,List.map_congr_left fun i _=> ?_⟩;simp only[Function.comp,Nat.succ_eq_add_one];omega
theorem ID {a b x:Int}:x∈VD a b<->a<=x/\x<=b:=by
 unfold VD;simp only[List.mem_map,List.mem_range];constructor
 ·rintro⟨i,h,rfl⟩;omega
 ·rintro⟨h1,h2⟩;exact⟨(x-a).toNat,oM,oM⟩
def Lk.stg(k:Lk)(code:Nat)(s r n f:Int):VA:=⟨code,bA code 7,s,r,n,f,k.m0,k.m1⟩
def Lk.NJ(k:Lk)(code:Nat)(s r n:Int)(l:List Int):List VA:=l.map fun f=> k.stg code s r n f
def Lk.OE(k:Lk)(code:Nat)(s r:Int)(l:List Int):List VA:=l.flatMap fun n=> k.NJ code s r n (VD k.m0 k.m1)
def Lk.ME(k:Lk)(code:Nat)(s:Int)(l:List Int):List VA:=l.flatMap fun r=> k.OE code s r (VD k.l0 k.l1)
def Lk.EG(k:Lk)(code:Nat)(l:List Int):List VA:=l.flatMap fun s=> k.ME code s (VD k.r0 k.r1)
def Lk.DN(k:Lk)(code:Nat):List VA:=k.EG code (VD k.s0 k.s1)
theorem Lk.SP(k:Lk)(code:Nat)(s r:Int)(l:List Int)(X:List VA):k.ME code s (r::l)++X=k.OE code s r (VD k.l0 k.l1)++(k.ME code s l++X):=by simp[Lk.ME]
theorem Lk.TP(k:Lk)(code:Nat)(s r n:Int)(l:List Int)(X:List VA):k.OE code s r (n::l)++X=k.NJ code s r n (VD k.m0 k.m1)++(k.OE code s r l++X):=by simp[Lk.OE]
theorem Lk.pM {k:Lk}{code:Nat}{x:VA}:x∈k.DN code<->∃s r n f,(k.s0<=s/\s<=k.s1)/\(k.r0<=r/\r<=k.r1)/\(k.l0<=n/\n<=k.l1)/\(k.m0<=f/\f<=k.m1)/\x=k.stg code s r n f:=by
 simp only[Lk.DN,Lk.EG,Lk.ME,Lk.OE,Lk.NJ,List.mem_flatMap,List.mem_map,ID];constructor
 ·rintro⟨s,hs,r,hr,n,hn,f,hf,rfl⟩;exact⟨s,r,n,f,hs,hr,hn,hf,rfl⟩
 ·rintro⟨s,r,n,f,hs,hr,hn,hf,rfl⟩;exact⟨s,hs,r,hr,n,hn,f,hf,rfl⟩
structure qQ(k:Lk)(code m eb ec b2 b5 b3:Nat)(H:View):Prop where
 l:H b2=some (true,.cells ⟨[.int .i64 k.s0,.int .i64 k.s1,.int .i64 k.r0,.int .i64 k.r1,.int .i64 k.l0,.int .i64 k.l1,.int .i64 k.m0,.int .i64 k.m1]⟩ 112 (0,0))
 mv:H b5=some (true,.cells ⟨[.int .i64 k.m0,.int .i64 k.m1]⟩ 162 (0,0))
 x:H b3=some (true,.cells ⟨[.int .i64 code,.slice (some ⟨eb,0,none⟩) m ec]⟩ 105 (0,0))
theorem qQ.le {k:Lk}{code m eb ec b2 b5 b3:Nat}(H H':View)(h:H.le H')(c:qQ k code m eb ec b2 b5 b3 H):qQ k code m eb ec b2 b5 b3 H':=⟨h _ _ c.l,h _ _ c.mv,h _ _ c.x⟩
def R4(b2 b5 b3:Nat):Value:=.func (.func 121) #[] #[.pointer (some ⟨b2,0,none⟩),.pointer (some ⟨b5,0,none⟩),.pointer (some ⟨b3,0,none⟩)]
section
variable(M:Md prog)(H:View)
theorem zI(a b:Int)(ha: -1000000000<=a)(hb:b<=1000000000):HL M (.func (.func 99) #[WB a b] #[]) (VD a b) (fun i (_:Unit)=> [.int .i64 i]) (fun _ _=> []) (fun _ _=> []) (fun _=> True) [] H:=fun l J D _ h0 hy H₀ vD=>
 TC.of (first:= [WB a b]) (captured:= []) aCA rfl (dA.mono (aAy M H₀ a b (.func (.yield l) #[] #[]) (fun i Hv=> ∃H₂,H₂.le Hv/\J (VD i b) H₂) D ha hb ⟨H,vD.base,h0⟩ (fun i H' h1 h2 ⟨H₂,h3,h4⟩=> by
  rw[HW h2] at h4;refine TC.mono (hy i (VD (i+1) b) () H₂ H' (ID.2 ⟨h1,h2⟩) h4 ⟨by simp,by simp,by simp,h3⟩) ?_;rintro v H3 (⟨rfl,H4,h5,h6⟩|⟨rfl,h5⟩)
  ·exact .inl ⟨rfl,H4,h5.base,h6⟩
  ·exact .inr ⟨rfl,h5⟩)) (by
  rintro v H' ⟨H₁,h1,⟨i,h2,_,_,H₂,h3,h4⟩|h2⟩
  ·rw[uZ h2] at h4;exact⟨H₂,View.le_trans h3 h1,.inl h4⟩
  ·exact⟨H₁,h1,.inr h2⟩))
theorem MM(k:Lk)(code m eb ec:Nat):dA M 89 #[k.val,.agg ⟨[.int .i64 code,.slice (some ⟨eb,0,none⟩) m ec]⟩] H (fun v H'=> H.le H'/\∃b2 b5 b3,v=R4 b2 b5 b3/\qQ k code m eb ec b2 b5 b3 H'):=by
 refine .en func89 ntmps89 fun St c cs hK=> ?_;refine U2 ?_;refine .bo fun b2=> ?_;refine .bo fun b3=> ?_;refine U8 ?_;refine .cl (fun H hs=> eD M H k.m0 k.m1) ?_;refine .al fun b5=> ?_;refine U7 ?_;refine .rt hK func89 results89 [_] ?_;exact fun H' hs=> ⟨hs.base,b2,b5,b3,rfl,hs.get (i:=2) rfl,hs.get (i:=0) rfl,hs.get (i:=1) rfl⟩
theorem TK(k:Lk)(code eb ec b2 b5 b3:Nat)(hk:∀z,z∈ [k.s0,k.r0,k.l0,k.m0,k.s1,k.r1,k.l1,k.m1]-> -1000000<=z/\z<=1000000)(hC:qQ k code (bA code 7).length eb ec b2 b5 b3 H):
  HL M (R4 b2 b5 b3) (k.DN code) (fun s mb=> [s.val eb ec mb]) (fun _ mb=> [(mb,true,.map #[] 0)]) (fun _ _=> []) (qQ k code (bA code 7).length eb ec b2 b5 b3) [] H:=fun l J D RD h0 hy H₀ vD=> by
 refine TC.of (first:= []) (captured:= [_,_,_]) aAF rfl ?_;simp only[List.mem_cons,List.not_mem_nil,or_false,forall_eq_or_imp,forall_eq] at hk;obtain⟨k1,k2,k3,k4,k5,k6,k7,k8⟩:=hk;obtain⟨c1,c2,c3⟩:=hC;refine dA.enter (vs:= [.func (.yield l) #[] #[],.pointer (some ⟨b2,0,none⟩),.pointer (some ⟨b5,0,none⟩),.pointer (some ⟨b3,0,none⟩)]) func121 rfl ntmps121 (Nat.le_of_ble_eq_true rfl) (vD) fun St c cs hK=> ?_;refine U2 ?_;refine .bo fun b4=> ?_;refine U6 ?_;refine .cl (fun H hs=> eD M H k.s0 k.s1) ?_;refine U3 ?_;have itS:=fun H (_:(fun _:View=> True) H)=> zI M H k.s0 k.s1 oM oM;have itR:=fun H (_:(fun _:View=> True) H)=> zI M H k.r0 k.r1 oM oM;have itL:=fun H (_:(fun _:View=> True) H)=> zI M H k.l0 k.l1 oM oM;have itM:=fun H (_:(fun _:View=> True) H)=> zI M H k.m0 k.m1 oM oM;refine Tc.J4 (A:= []) (ts:= [14]) (fun rest H₁=> J (k.EG code rest) H₁) (fun j H₁=> j=.ret/\D H₁) rfl rfl rfl rfl itS (fun _ _ _ h=> h) (fun _ _ _=> trivial) rfl (fun _ _=> rfl) h0 ?_ ?_ ?_
 ·rintro r s rest1 e l1 tmps1 asg1 bdy1 H₁ _ TN ⟨rfl,j1⟩ Q1 St1 cc1 cs1 mQ q1 q1';obtain⟨c1,c2,c3⟩:=RD _ _ j1;refine U ?_;refine .al fun b6=> ?_;refine U2 ?_;refine Tc.beginRound (i:=1) rfl rfl rfl ?_;refine U6 ?_;refine .cl (fun H hs=> eD M H k.r0 k.r1) ?_;refine U3 ?_;refine Tc.kK (A:= []) (ts:= [20]) (i:=1) (fun rest H₁=> J (k.ME code s rest++k.EG code rest1) H₁) (fun j H₁=> j=.ret/\D H₁) rfl rfl rfl rfl rfl itR (fun _ _ _ h=> h) (fun _ _ _=> trivial) rfl (fun _ _=> rfl) j1 ?_ ?_ ?_
  ·rintro r' rest2 e l2 tmps2 asg2 bdy2 H₁ _ A3 ⟨rfl,j2⟩ Q2 St2 cc2 cs2 B2 q2 q2';obtain⟨c1,c2,c3⟩:=RD _ _ j2;refine U ?_;refine .al fun b7=> ?_;refine U2 ?_;refine Tc.beginRound (i:=1) rfl rfl rfl ?_;refine U7 ?_;refine .cl (fun H hs=> eD M H k.l0 k.l1) ?_;refine U3 ?_;refine Tc.kK (A:= []) (ts:= [27]) (i:=1) (fun rest H₁=> J (k.OE code s r' rest++(k.ME code s rest2++k.EG code rest1)) H₁) (fun j H₁=> j=.ret/\D H₁) rfl rfl rfl rfl rfl itL (fun _ _ _ h=> h) (fun _ _ _=> trivial) rfl (fun _ _=> rfl) (k.SP ..▸j2) ?_ ?_ ?_
   ·rintro n' rest3 e l3 tmps3 asg3 bdy3 H₁ _ jT ⟨rfl,j3⟩ Q3 St3 cc3 cs3 hK3 q3 q3';obtain⟨c1,c2,c3⟩:=RD _ _ j3;refine U ?_;refine .al fun b8=> ?_;refine U2 ?_;refine Tc.beginRound (i:=1) rfl rfl rfl ?_;refine U7 ?_;refine Tc.kK (A:= []) (ts:= [30]) (i:=1) (fun rest H₁=> J (k.NJ code s r' n' rest++(k.OE code s r' rest3++(k.ME code s rest2++k.EG code rest1))) H₁) (fun j H₁=> j=.ret/\D H₁) rfl rfl rfl rfl rfl itM (fun _ _ _ h=> h) (fun _ _ _=> trivial) rfl (fun _ _=> rfl) (k.TP ..▸j3) ?_ ?_ ?_
    ·rintro f' rest4 e l4 tmps4 asg4 bdy4 H₁ _ zJ ⟨rfl,j4⟩ Q4 St4 cc4 cs4 hK4 q4 q4';obtain⟨c1,c2,c3⟩:=RD _ _ j4;refine U3 ?_;refine Tc.beginRound (i:=0) rfl rfl rfl ?_;refine U3 ?_;refine .x (.ld 8) ?_;refine U6 ?_;refine .e (Or.makeMap rfl rfl dE (fun mb=> ?_));refine U ?_;refine To.HR 0 rfl (fun cN=> ?_);have CN:=hy (k.stg code s r' n' f') (k.NJ code s r' n' rest4++(k.OE code s r' rest3++(k.ME code s rest2++k.EG code rest1))) mb H₁ _ (Lk.pM.2 ⟨s,r',n',f',ID.1 TN,ID.1 A3,ID.1 jT,ID.1 zJ,rfl⟩) j4 ((eA.nil H₁).cons _ cN);refine To.OF rfl rfl rfl rfl rfl rfl dE (CN) (fun v H3 hv=> ?_);rcases hv with ⟨rfl,H4,h5,h6⟩|⟨rfl,h5⟩
     ·refine To.lower h5.base ?_;refine U5 ?_;refine Tc.AA hK4 (i:=0) rfl (.inl ⟨rfl,rfl⟩) (fun H' hs=> q4 H' _ _ hs ⟨rfl,h6⟩)
     ·refine U3 ?_;refine Tc.AA hK4 (i:=0) rfl (.inr (.inl ⟨_,rfl,rfl⟩)) (fun H' hs=> q4' H' _ _ _ hs ⟨rfl,rfl,h5⟩)
    ·rintro H₁ j4;refine U2 ?_;refine Tc.AA hK3 (i:=1) rfl (.inl ⟨rfl,rfl⟩) (fun H' hs=> q3 H' _ _ (hs.less sL) ⟨rfl,j4⟩)
    ·rintro j H₁ ⟨rfl,h5⟩;refine Tc.AA hK3 (i:=1) rfl (.inr (.inl ⟨_,rfl,rfl⟩)) (fun H' hs=> q3' H' _ _ _ (hs.less sL) ⟨rfl,rfl,h5⟩)
   ·rintro H₁ j3;refine U2 ?_;refine Tc.AA B2 (i:=1) rfl (.inl ⟨rfl,rfl⟩) (fun H' hs=> q2 H' _ _ (hs.less sL) ⟨rfl,j3⟩)
   ·rintro j H₁ ⟨rfl,h5⟩;refine Tc.AA B2 (i:=1) rfl (.inr (.inl ⟨_,rfl,rfl⟩)) (fun H' hs=> q2' H' _ _ _ (hs.less sL) ⟨rfl,rfl,h5⟩)
  ·rintro H₁ j2;refine U2 ?_;refine Tc.AA mQ (i:=1) rfl (.inl ⟨rfl,rfl⟩) (fun H' hs=> q1 H' _ _ (hs.less sL) ⟨rfl,j2⟩)
  ·rintro j H₁ ⟨rfl,h5⟩;refine Tc.AA mQ (i:=1) rfl (.inr (.inl ⟨_,rfl,rfl⟩)) (fun H' hs=> q1' H' _ _ _ (hs.less sL) ⟨rfl,rfl,h5⟩)
 ·rintro r H₁ j1;refine U ?_;refine Tc.aBE (E:=en) (i:=0) hK func121 results121 (vs:= []) rfl trivial ?_;exact fun H' hs=> ⟨H₁,hs.base,.inl j1⟩
 ·rintro r j H₁ ⟨rfl,h5⟩;refine Tc.PR (E:=en) (i:=0) hK func121 results121 (vs:= []) rfl trivial ?_;exact fun H' hs=> ⟨H₁,hs.base,.inr h5⟩
end
def VA.leaves(s:VA):Nat->Nat->Nat->List Int->List (Nat×List Int)
 | 0,_,v,mv=> [(v,mv)]
 | d+1,i,v,mv=> (s.opts (s.ps[i]?.getD 0) i).flatMap fun o=> s.leaves d (i+1) (pB v o.1.toNat) (mv++[o.2])
def VA.all(s:VA):List (Nat×List Int):=s.leaves s.ps.length 0 127 []
theorem yR {read mt after:Int}:∀ {f:Nat} {n:Int} {o:Int×Int},o∈EE read mt after f n->0<=o.1/\o.1<=7
 | 0,_,_,h=> by cases h
 | f + 1,n,o,h=> by
  unfold EE at h;split at h
  ·rcases List.mem_cons.1 h with rfl|h
   ·have:=pC read (after+n);exact⟨this.1,this.2.1⟩
   ·split at h
    ·cases h
    ·exact yR h
  ·cases h
theorem VA.JP {s:VA}{p i:Nat}{o:Int×Int}(h:o∈s.opts p i):0<=o.1/\o.1<=7:=by
 unfold VA.opts at h;split at h
 ·simp at h;subst h;exact⟨by simp,by simp⟩
 ·exact yR h
theorem jO {read mt after:Int}:∀(f:Nat) (n:Int),(EE read mt after f n).length<=f
 | 0,_=> by simp[EE]
 | f + 1,n=> by
  unfold EE;split
  ·have:=jO (read:=read) (mt:=mt) (after:=after) f ((2*YA read (after+n)+1)*read+1-after);split <;> simp <;> omega
  ·simp
theorem VA.BR {s:VA}(LB:s.Ok)(p i:Nat):(s.opts p i).length<=3000:=by
 unfold VA.opts;split
 ·simp
 ·have h1:=jO (read:=s.read) (mt:=s.mt) (after:=s.after p i) (s.mt+1-s.mf).toNat s.mf;have h2:=LB.mf;have h3:=LB.mt;omega
theorem aI:∀v:Nat,v<128->∀f:Nat,f<8->pB v f<128:=by decide +kernel
def vM(n:Nat)(mv:List Int):List Value:=kA mv++List.replicate (7-n) (.int .i64 0)
theorem IP {l:List (Int×Int)}{j:Nat}{o:Int×Int}(h:l[j]? =some o):((eB l).drop (j*2)).take 2= [.int .i64 o.1,.int .i64 o.2]:=by
 induction l generalizing j with
 | nil=> simp at h
 | cons x l ih=>
  rw[qI];cases j with
  | zero=> simp at h;subst h;simp
  | succ j=>
   rw[show(j+1)*2=j*2+2 by omega,List.drop_append];simp only[List.length_cons,List.length_nil];rw[show j*2+2-(0+1+1)=j*2 by omega,List.drop_eq_nil_of_le (by simp)];exact ih (by simpa using h)
theorem H6 {H:View}{s:VA}{p i j:Nat}{v:Value}{o:Int×Int}(h:gB H 2 v (s.opts p i).length (eB (s.opts p i)))(hj:(s.opts p i)[j]? =some o):
  ∃b off c f cs e fz,v=.slice (some ⟨b,off,none⟩) (s.opts p i).length c/\H b=some (f,.cells ⟨cs⟩ e fz)/\YB true 2 cs (off+j*2)=some (.agg ⟨[.int .i64 o.1,.int .i64 o.2]⟩):=by
 have iB:=(List.getElem?_eq_some_iff.1 hj).1;obtain⟨_,h2,⟨_,c,_,h3⟩|⟨b,off,c,f,cs,e,fz,h3,h4,h5,h6⟩⟩:=h
 ·have:=zG (s.opts p i);rw[h3] at this;simp at this
  omega
 ·refine⟨b,off,c,f,cs,e,fz,h3,h4,?_⟩;have hl:=zG (s.opts p i);have hle:off+j*2+2<=cs.length:=by rw[hl] at h5;omega
  have:Nat.ble (off+j*2+2) cs.length=true:=Nat.ble_eq_true_of_le hle;unfold YB;simp only[this]
  congr 3
  have e1:=IP hj;rw[<-h6,hl,List.drop_take,List.drop_drop] at e1;rw[<-e1,List.take_take]
  congr 1
  omega
theorem gV {s:VA}{p i mb:Nat}{Hj Hm H₁:View}{v:Value}{x:Bool×Obj}(hd:Dj Hj (Hm.put mb x))(h:iN s p i mb Hm (Hj.plus (Hm.put mb x)) v H₁):
  ∃Hm' es' cl',(Hj.plus (Hm'.put mb (true,.map es' cl'))).le H₁/\Dj Hj (Hm'.put mb (true,.map es' cl'))/\Hm.le Hm'/\Hm' mb=none/\gB Hm' 2 v (s.opts p i).length (eB (s.opts p i))/\cI Hm' s es'.toList:=by
 obtain⟨h1,Hm',es',cl',h2,h3,h4,h5,h6,h7,h8⟩:=h;have hjm:Hj mb=none:=hd mb x (View.pA ..);refine⟨Hm',es',cl',fun c y hc=> ?_,fun c y hc=> ?_,h4,h5,h6,h8⟩
 ·unfold View.plus at hc;split at hc
  ·rename_i z hz
   cases hc
   refine h1 c _ ?_ (tA hz);rintro rfl;rw[hjm] at hz;cases hz
  ·by_cases e:c=mb
   ·subst e;rw[View.pA] at hc;cases hc
    exact h7
   ·rw[View.jA _ _ e] at hc;exact h2 c y hc
 ·by_cases e:c=mb
  ·subst e;exact hjm
  ·rw[View.jA _ _ e] at hc;rcases h3 c y hc with h9|h9
   ·exact hd c y (by rw[View.jA _ _ e];exact h9)
   ·exact(VF h9).1
structure NSt where
 j:Nat
 Hj:View
 Hm:View
 es:Array MapEntry
 cl:Nat
 q:Nat
 z:List Value
section
variable(M:Md prog)(H:View)
def nxV(b2 b3 b4 b5:Nat):Value:=.func (.func 135) #[] #[.pointer (some ⟨b2,0,none⟩),.pointer (some ⟨b3,0,none⟩),.pointer (some ⟨b4,0,none⟩),.pointer (some ⟨b5,0,none⟩)]
def gO(s:VA)(l eb ec mb bm b2 b3 b4 b5 q:Nat)(c:List Value):Bl:=
 [(bm,true,.cells ⟨c⟩ 3 (0,0)),(b5,true,.cells ⟨[nxV b2 b3 b4 b5]⟩ 223 (0,0)),(b4,true,.cells ⟨[.slice (some ⟨bm,0,none⟩) q 7]⟩ 43 (0,0)),(b3,true,.cells ⟨[.func (.yield l) #[] #[]]⟩ 222 (0,0)),(b2,true,.cells ⟨(s.val eb ec mb).cells.toList⟩ 165 (0,0))]
theorem E8(s:VA)(LB:s.Ok)(l eb ec mb bm b2 b3 b4 b5:Nat)(J:List (Nat×List Int)->View->Prop)(D:View->Prop)(RD:∀rest H',J rest H'->eE H' s eb)
  (hy:∀(x:Nat×List Int) rest (e:Nat) H' H'',x∈s.all->J (x::rest) H'->eA H' [(e,true,.cells ⟨vM s.ps.length x.2⟩ 3 (0,0))] H''->TC M (.func (.yield l) #[] #[]) [.int .u8 x.1,.slice (some ⟨e,0,none⟩) s.ps.length 7] H'' fun v H3=> (v=.bool true/\∃H₂,eA H₂ [(e,true,.cells ⟨vM s.ps.length x.2⟩ 3 (0,0))] H3/\J rest H₂)\/(v=.bool false/\D H3)):
  ∀ (d i v:Nat) (mv:List Int) (rest:List (Nat×List Int)),i+d=s.ps.length->mv.length=i->v<128->(∀y∈s.leaves d i v mv,y∈s.all)->∀(Hj Hm:View) (es:Array MapEntry) (cl:Nat) (z:List Value) (H:View),
   eA (Hj.plus (Hm.put mb (true,.map es cl))) (gO s l eb ec mb bm b2 b3 b4 b5 i z) H->Dj Hj (Hm.put mb (true,.map es cl))->Hm mb=none->cI Hm s es.toList->z.length=7->z.take i=kA mv->z.drop s.ps.length=List.replicate (7-s.ps.length) (.int .i64 0)->J (s.leaves d i v mv++rest) Hj-> 
   dA M 135 #[.int .i64 i,.int .u8 v,.pointer (some ⟨b2,0,none⟩),.pointer (some ⟨b3,0,none⟩),.pointer (some ⟨b4,0,none⟩),.pointer (some ⟨b5,0,none⟩)] H fun r H''=>
    (r=.bool true/\∃Hj' Hm' es' cl' q' c',q'<=7/\Hm.le Hm'/\eA (Hj'.plus (Hm'.put mb (true,.map es' cl'))) (gO s l eb ec mb bm b2 b3 b4 b5 q' c') H''/\Dj Hj' (Hm'.put mb (true,.map es' cl'))/\Hm' mb=none/\cI Hm' s es'.toList/\c'.length=7/\c'.take i=kA mv/\c'.drop s.ps.length=List.replicate (7-s.ps.length) (.int .i64 0)/\J rest Hj')\/ 
    (r=.bool false/\∃H₁,H₁.le H''/\D H₁):=by
 intro d;induction d with
 | zero=>
  intro i v mv rest hid IZ hv GD Hj Hm es cl z H hs nQ cN hm hc7 hci hcn hJ;have sP:i=s.ps.length:=by omega
  have h6:=LB.ps6;have hcp:z=vM s.ps.length mv:=by
   rw[<-List.take_append_drop s.ps.length z,hcn,<-sP,hci];rfl
  refine dA.enter (vs:= [.int .i64 i,.int .u8 v,.pointer (some ⟨b2,0,none⟩),.pointer (some ⟨b3,0,none⟩),.pointer (some ⟨b4,0,none⟩),.pointer (some ⟨b5,0,none⟩)]) func135 rfl ntmps135 (Nat.le_of_ble_eq_true rfl) (hs) fun St c cs hK=> ?_;refine U20 ?_;refine To.HR 0 rfl (fun XQ=> ?_);obtain⟨hf1,hf2⟩:=VF XQ;rw[<-XF];have hd2:Dj (Hj.put bm (true,.cells ⟨z⟩ 3 (0,0))) (Hm.put mb (true,.map es cl)):=nQ.put hf2;have A3:eA Hj [(bm,true,.cells ⟨vM s.ps.length mv⟩ 3 (0,0))] (Hj.put bm (true,.cells ⟨z⟩ 3 (0,0))):=by
   rw[hcp];exact(eA.nil Hj).cons _ hf1
  have CN:=(hy (v,mv) rest bm Hj _ (GD _ (by simp[VA.leaves])) hJ A3).frame hd2;rw[<-sP] at CN;refine To.OF rfl rfl rfl rfl rfl rfl dE (CN) (fun r H3 hv=> ?_);obtain⟨H4,rfl,hd4,⟨rfl,H2,zJ,hJ2⟩|⟨rfl,hD⟩⟩:=hv
  ·have hle:(H2.put bm (true,.cells ⟨z⟩ 3 (0,0))).le H4:=fun b x hb=> by
    by_cases e:b=bm
    ·subst e;rw[View.pA] at hb;cases hb
     rw[hcp,<-sP];exact zJ.get (i:=0) rfl
    ·rw[View.jA _ _ e] at hb;exact zJ.base b x hb
   have UQ:H2 bm=none:=zJ.fresh (i:=0) rfl;refine To.lower (E4 hle hd4) ?_;rw[XF];refine To.pop (by rw[GA UQ];exact hf2) ?_;have hd5:Dj H2 (Hm.put mb (true,.map es cl)):=fun b x hb=> by
    cases h:H2 b with
    | none=> rfl
    | some y=>
     have h1:=hd4 b x hb;rw[zJ.base b y h] at h1;cases h1
   refine U2 ?_;refine .rt hK func135 results135 [_] ?_;exact fun H' hs'=> .inl ⟨rfl,H2,Hm,es,cl,i,z,oM,View.le_refl _,hs',hd5,cN,hm,hc7,hci,hcn,hJ2⟩
  ·refine U2 ?_;refine .rt hK func135 results135 [_] ?_;exact fun H' hs'=> .inr ⟨rfl,H4,fun b x hb=> hs'.base b x (tA hb),hD⟩
 | succ d ih=>
  intro i v mv rest hid IZ hv GD Hj Hm es cl z H hs nQ cN hm hc7 hci hcn hJ;have sP:i<s.ps.length:=by omega
  have h6:=LB.ps6;obtain⟨ef,ees,eet,eez,SS,QQ⟩:=RD _ _ hJ;have hjm:Hj mb=none:=nQ mb _ (View.pA ..);have hEb:(Hj.plus (Hm.put mb (true,.map es cl))) eb=some (ef,.cells ⟨ees⟩ eet eez):=tA SS;have hMb:(Hj.plus (Hm.put mb (true,.map es cl))) mb=some (true,.map es cl):=by rw[GA hjm,View.pA]
  have aCW:Hm.le (Hj.plus (Hm.put mb (true,.map es cl))):=fun b x hb=> by
   have aB:b≠mb:=by rintro rfl;rw[cN] at hb;cases hb
   have h1:(Hm.put mb (true,.map es cl)) b=some x:=by rw[View.jA _ _ aB];exact hb
   rw[GA (nQ b x h1)];exact h1
  have f1:YB true 2 ees (0+(i:Int).toNat*2)=some (FD (s.ps[i]?.getD 0) i):=by rw[show(i:Int).toNat=i by simp];exact QQ i sP
  refine dA.enter (vs:= [.int .i64 i,.int .u8 v,.pointer (some ⟨b2,0,none⟩),.pointer (some ⟨b3,0,none⟩),.pointer (some ⟨b4,0,none⟩),.pointer (some ⟨b5,0,none⟩)]) func135 rfl ntmps135 (Nat.le_of_ble_eq_true rfl) (hs) fun St c cs hK=> ?_;refine mN ?_;refine Tc.drC [] [7] [] mixed rfl ?_;refine .oo 0 ?_;refine .oo 1 ?_;refine .oo 2 ?_;refine .oo 3 ?_;refine .oo 4 ?_;refine .oo 5 ?_;refine .oo 6 ?_;refine Ta.tkP 9 kR rfl rfl rfl rfl dE rfl rfl (mA.take .mv) ?_;refine Ta.OF 7 kR rfl kR rfl rfl rfl rfl rfl rfl dE (TC.h (kO M _ s LB eb ec mb es cl (s.ps[i]?.getD 0) i ⟨ef,ees,eet,eez,hEb,QQ⟩ hMb Hm hm aCW cN sP rfl)) (fun w H1 hw=> ?_);obtain⟨Hm1,es1,cl1,nD,hd1,aBb,WX,vG,A6⟩:=gV nQ hw;refine Ta.lower nD ?_;have aV:=vG;obtain⟨⟨oa,oc,rS⟩, -, -⟩:=vG;subst rS;refine .ea 8 rfl (Or.A4 .ln rfl dE ⟨S3.off kR,?_⟩);refine .dn ?_;refine U ?_;have hJ1:J (((s.opts (s.ps[i]?.getD 0) i).drop 0).flatMap (fun o=> s.leaves d (i+1) (pB v o.1.toNat) (mv++[o.2]))++rest) Hj:=hJ;refine Tc.db (Tc.oR (σ:= { x:NSt//x.j<=(s.opts (s.ps[i]?.getD 0) i).length/\x.q<=7/\Dj x.Hj (x.Hm.put mb (true,.map x.es x.cl))/\Hm1.le x.Hm/\x.Hm mb=none/\cI x.Hm s x.es.toList/\x.z.length=7/\x.z.take i=kA mv/\x.z.drop s.ps.length=List.replicate (7-s.ps.length) (.int .i64 0)/\
    J (((s.opts (s.ps[i]?.getD 0) i).drop x.j).flatMap (fun o=> s.leaves d (i+1) (pB v o.1.toNat) (mv++[o.2]))++rest) x.Hj })
   (fun x=> (x.1.Hj.plus (x.1.Hm.put mb (true,.map x.1.es x.1.cl)),[(30,.int .i64 (x.1.j:Nat)),(29,.int .i64 ((s.opts (s.ps[i]?.getD 0) i).length:Nat)),(28,.slice oa (s.opts (s.ps[i]?.getD 0) i).length oc),(0,.int .i64 (i:Nat)),(1,.int .u8 (v:Nat)),(2,.pointer (some ⟨b2,0,none⟩)),(3,.pointer (some ⟨b3,0,none⟩)),(4,.pointer (some ⟨b4,0,none⟩)),(5,.pointer (some ⟨b5,0,none⟩))],
    gO s l eb ec mb bm b2 b3 b4 b5 x.1.q x.1.z)) (fun x=> (s.opts (s.ps[i]?.getD 0) i).length-x.1.j) ?_ ⟨⟨0,Hj,Hm1,es1,cl1,i,z⟩,Nat.zero_le _,(by show i<=7;omega),hd1,View.le_refl _,WX,A6,hc7,hci,hcn,hJ1⟩)
  rintro⟨⟨j,Hj,Hm',es,cl,q,z⟩,g1,g2,g3,g4,g5,g6,g7,g8,g9,g10⟩ lh;simp only at g1 g2 g3 g4 g5 g6 g7 g8 g9 g10;show Tc M St _ _ (Hj.plus (Hm'.put mb (true,.map es cl))) _ [(30,.int .i64 (j:Nat)),(29,.int .i64 ((s.opts (s.ps[i]?.getD 0) i).length:Nat)),(28,.slice oa (s.opts (s.ps[i]?.getD 0) i).length oc),(0,.int .i64 (i:Nat)),(1,.int .u8 (v:Nat)),(2,.pointer (some ⟨b2,0,none⟩)),(3,.pointer (some ⟨b3,0,none⟩)),(4,.pointer (some ⟨b4,0,none⟩)),(5,.pointer (some ⟨b5,0,none⟩))]
    (gO s l eb ec mb bm b2 b3 b4 b5 q z) _ _
  have hol:=VA.BR LB (s.ps[i]?.getD 0) i;by_cases cj:j=(s.opts (s.ps[i]?.getD 0) i).length
  ·have hJ2:J rest Hj:=by
    rw[cj,List.drop_length] at g10;exact g10
   refine fF ?_;refine .rt hK func135 results135 [_] ?_;exact fun H' hs'=> .inl ⟨rfl,Hj,Hm',es,cl,q,z,g2,View.le_trans aBb g4,hs',g3,g5,g6,g7,g8,g9,hJ2⟩
  ·have cj2:j<(s.opts (s.ps[i]?.getD 0) i).length:=by omega
   obtain⟨⟨o1,o2⟩,WU⟩:∃o,(s.opts (s.ps[i]?.getD 0) i)[j]? =some o:=⟨_,List.getElem?_eq_getElem cj2⟩
   have eT:=VA.JP (List.mem_of_getElem? WU);simp only at eT;obtain⟨on,rfl⟩:=Int.eq_ofNat_of_zero_le eT.1;have R7:on<8:=by
    have h7:(on:Int)<=7:=eT.2;omega
   obtain⟨ob,off,oc',of,ocs,oe,ofz,ho1,Q7,ho3⟩:=H6 (aV.mono g4) WU;cases ho1
   have aBf:ob≠mb:=by rintro rfl;rw[g5] at Q7;cases Q7
   have aBe:(Hm'.put mb (true,.map es cl)) ob=some (of,.cells ⟨ocs⟩ oe ofz):=by rw[View.jA _ _ aBf];exact Q7
   have hob:(Hj.plus (Hm'.put mb (true,.map es cl))) ob=some (of,.cells ⟨ocs⟩ oe ofz):=by rw[GA (g3 _ _ aBe)];exact aBe
   have f2:YB true 2 ocs (off+(j:Int).toNat*2)=some (.agg ⟨[.int .i64 (on:Nat),.int .i64 o2]⟩):=by rw[show(j:Int).toNat=j by simp];exact ho3
   have f3:zE z (i*1) [.int .i64 o2]=z.set i (.int .i64 o2):=by rw[Nat.mul_one];exact BL _ _ _ oM
   have hJ3:J (s.leaves d (i+1) (pB v on) (mv++[o2])++(((s.opts (s.ps[i]?.getD 0) i).drop (j+1)).flatMap (fun o=> s.leaves d (i+1) (pB v o.1.toNat) (mv++[o.2]))++rest)) Hj:=by
    rw[List.drop_eq_getElem_cons cj2,List.flatMap_cons,List.append_assoc] at g10;have e1:(s.opts (s.ps[i]?.getD 0) i)[j]=((on:Int),o2):=Option.some.inj ((List.getElem?_eq_getElem cj2).symm.trans WU);rw[e1] at g10;exact g10
   have hz1:(z.set i (.int .i64 o2)).length=7:=by rw[List.length_set];exact g7
   have hz2:(z.set i (.int .i64 o2)).take (i+1)=kA (mv++[o2]):=by
    rw[List.take_succ_eq_append_getElem oM,List.take_set_of_le (Nat.le_refl i),g8];simp[kA]
   have hz3:(z.set i (.int .i64 o2)).drop s.ps.length=List.replicate (7-s.ps.length) (.int .i64 0):=by rw[List.drop_set_of_lt oM];exact g9
   refine yK ?_;refine .al fun b10=> ?_;refine U3 ?_;refine Tc.drC [6,7] [] [1,3] mixed rfl ?_;refine .oo 0 ?_;refine .oo 1 ?_;refine Ta.tkC 2 kR rfl rfl dE rfl rfl (mA.take (mA.sliceTo (E:=en) rfl rfl rfl rfl rfl rfl oM oM)) ?_;refine .oo 3 ?_;refine .oo 4 ?_;refine .ea 5 rfl (.bs (zz:=fun bs=> ⟨S3.mk sL (.inr sL),?_⟩));refine .ea 6 rfl (Or.lX (E:=en) 2 rfl rfl rfl rfl rfl rfl rfl rfl rfl rfl rfl rfl rfl (fun H hs=> gB.of (hs.get (i:=0) rfl) (Nat.le_of_ble_eq_true rfl)) rfl oM (by show i*1+1<=z.length;omega) (List.cons_ne_nil _ _) rfl dE f3 ⟨S3.mk sL (.inl kR),?_⟩);refine .ea 7 rfl (.st 4 (zz:=⟨S3.mk sL (.inl kR),?_⟩));refine .dn ?_;refine U ?_;refine Tc.drC [] [7] [] mixed rfl ?_;refine .oo 0 ?_;refine .oo 1 ?_;refine .oo 2 ?_;refine .oo 3 ?_;refine .oo 4 ?_;refine .oo 5 ?_;refine Ta.tkC 6 kR rfl rfl dE rfl rfl (mA.tk fun H hs=> cS M H v on hv R7) ?_;refine Ta.lift (L₂:= [(bs,_,_),(b10,_,_)]) rfl (fun Hx hx=> ?_);refine Ta.OF 7 kR rfl kR rfl rfl rfl rfl rfl rfl dE (TC.of (first:= []) (captured:= [_,_,_,_]) I5 rfl (ih (i+1) (pB v on) (mv++[o2]) _ oM (by simp[IZ]) (aI v hv on R7) (fun y hy=> GD y (by
    unfold VA.leaves;exact List.mem_flatMap.2 ⟨_,List.mem_of_getElem? WU,hy⟩)) Hj Hm' es cl _ Hx hx g3 g5 g6 hz1 hz2 hz3 hJ3)) (fun r H3 hr=> ?_)
   rcases hr with ⟨rfl,Hj',Hm2,es',cl',q',z',g2',g4',hs',g3',g5',g6',g7',g8',g9',hJ4⟩|⟨rfl,H1,hle,hD⟩
   ·refine Ta.expand hs' ?_;refine .ea 8 rfl (Or.A4 .nt rfl dE ⟨S3.off kR,?_⟩);refine .dn ?_;refine U7 ?_;have hz4:z'.take i=kA mv:=by
     have h:=congrArg (List.take i) g8';rw[List.take_take,Nat.min_eq_left oM] at h;rw[h];unfold kA;rw[<-List.map_take,List.take_left' IZ]
    have lh':=lh ⟨⟨j+1,Hj',Hm2,es',cl',q',z'⟩,by show j+1<=_;omega,g2',g3',View.le_trans g4 g4',g5',g6',g7',hz4,g9',hJ4⟩ (by show _-(j+1)<_-j;omega);exact Tc.db lh'
   ·refine Ta.lower hle ?_;refine .ea 8 rfl (Or.A4 .nt rfl dE ⟨S3.off kR,?_⟩);refine .dn ?_;refine U5 ?_;refine .rt hK func135 results135 [_] ?_;exact fun H' hs'=> .inr ⟨rfl,H1,hs'.base,hD⟩
theorem xZ(s:VA)(LB:s.Ok)(eb ec mb:Nat):HL M (.func (.func 93) #[s.val eb ec mb] #[]) s.all (fun x vb=> [.int .u8 x.1,.slice (some ⟨vb,0,none⟩) s.ps.length 7]) (fun x vb=> [(vb,true,.cells ⟨vM s.ps.length x.2⟩ 3 (0,0))]) (fun x vb=> [(vb,true,.cells ⟨vM s.ps.length x.2⟩ 3 (0,0))])
  (fun H=> eE H s eb) [(mb,true,.map #[] 0)] H:=fun l J D RD h0 hy H' hs'=> by
 refine TC.of (first:= [_]) (captured:= []) aCy rfl ?_;refine dA.enter (vs:= [s.val eb ec mb,.func (.yield l) #[] #[]]) func93 rfl ntmps93 (Nat.le_of_ble_eq_true rfl) (hs') fun St c cs hK=> ?_;refine U2 ?_;refine .bo fun b2=> ?_;refine .bo fun b3=> ?_;refine U3 ?_;refine .e (Or.makeSlice (E:=en) (len:=0) (cap:=7) rfl rfl rfl rfl rfl rfl dE dE rfl rfl dE (fun bm=> ?_));refine .al fun b4=> ?_;refine U4 ?_;refine .al fun b5=> ?_;refine U8 ?_;refine To.lift (L₂:= []) rfl (fun Hx hx=> ?_);have hp:eA H (gO s l eb ec mb bm b2 b3 b4 b5 0 (List.replicate 7 (.int .i64 0))++[(mb,true,.map #[] 0)]) Hx:=hx.perm (by
  unfold gO;refine(List.Perm.trans ?_ (List.Perm.cons _ (List.Perm.swap _ _ _)));exact List.Perm.swap _ _ _)
 obtain⟨Hy,hy1,e8⟩:=hp.iD;have hmH:H mb=none:=e8.fresh (i:=0) rfl;have hle:(H.plus (View.put (fun _=> none) mb (true,.map #[] 0))).le Hy:=fun b x hb=> by
  unfold View.plus at hb;split at hb
  ·rename_i y hyb
   cases hb
   exact e8.base _ _ hyb
  ·by_cases e:b=mb
   ·subst e;rw[View.pA] at hb;cases hb
    exact e8.get (i:=0) rfl
   ·rw[View.jA _ _ e] at hb;cases hb
 have nQ:Dj H (View.put (fun _=> none) mb (true,.map #[] 0)):=fun b x hb=> by
  by_cases e:b=mb
  ·subst e;exact hmH
  ·rw[View.jA _ _ e] at hb;cases hb
 have hn:=E8 M s LB l eb ec mb bm b2 b3 b4 b5 J D RD hy s.ps.length 0 127 [] [] oM rfl dE (fun y h=> h) H (fun _=> none) #[] 0 (List.replicate 7 (.int .i64 0)) Hx (hy1.lower hle) nQ rfl (fun e he=> by cases he) (by simp) rfl (by rw[List.drop_replicate]) (by rw[List.append_nil];exact h0);refine To.OF rfl rfl rfl rfl rfl rfl dE (TC.of (first:= []) (captured:= [_,_,_,_]) I5 rfl hn) (fun r H3 hr=> ?_);refine U ?_;refine .ov hK func93 results93 [] ?_;intro H4 zJ;rcases hr with ⟨rfl,Hj',Hm2,es',cl',q',z',g2',g4',hs5,g3',g5',g6',g7',g8',g9',hJ4⟩|⟨rfl,H1,nD,hD⟩
 ·exact⟨Hj',fun b x hb=> zJ.base _ _ (hs5.base _ _ (tA hb)),.inl hJ4⟩
 ·exact⟨H1,View.le_trans nD zJ.base,.inr hD⟩
end
def rowOf(f:Nat->Bool):List Value:=(List.range 128).map fun i=> .bool (f i)
theorem wB(f:Nat->Bool):(rowOf f).length=128:=by simp[rowOf]
theorem uC(f:Nat->Bool){i:Nat}(h:i<128):(rowOf f)[i]? =some (.bool (f i)):=by simp[rowOf,h]
theorem QR {f g:Nat->Bool}(h:∀i,i<128->f i=g i):rowOf f=rowOf g:=by
 unfold rowOf;exact List.map_congr_left fun i hi=> by rw[h i (by simpa using hi)]
theorem vW {f f':Nat->Bool}{w:Nat}{c:Bool}(hw:w<128)(h1:∀u,u<128->u≠w->f' u=f u)(h2:f' w=c):zE (rowOf f) (0+(w:Int).toNat*1) [.bool c]=rowOf f':=by
 rw[show 0+(w:Int).toNat*1=w by simp,BL _ _ _ (by rw[wB];exact hw)];apply List.ext_getElem?
 intro i;by_cases e:w=i
 ·subst e;rw[List.getElem?_set_self (by rw[wB];exact hw),uC f' hw,h2]
 ·rw[List.getElem?_set_ne e];by_cases hi:i<128
  ·rw[uC f hi,uC f' hi,h1 i hi (Ne.symm e)]
  ·rw[List.getElem?_eq_none (by rw[wB];omega),List.getElem?_eq_none (by rw[wB];omega)]
theorem HM(f:Nat->Bool):YB true 128 (rowOf f) 0=some (.agg ⟨rowOf f⟩):=by
 unfold YB;rw[show Nat.ble (0+128) (rowOf f).length=true by rw[wB];rfl];simp only[List.drop_zero];rw[List.take_of_length_le (by rw[wB];omega)]
theorem IM(f:Nat->Bool){c:List Value}(h:c.length=128):zE c 0 (rowOf f)=rowOf f:=by
 unfold zE;rw[wB,List.drop_of_length_le oM];simp
theorem UT {f:Nat->Bool}(h:∀i,i<128->f i=false):List.replicate 128 (Value.bool false)=rowOf f:=by
 apply List.ext_getElem?
 intro i;by_cases hi:i<128
 ·rw[uC f hi,h i hi,List.getElem?_replicate,if_pos hi]
 ·rw[List.getElem?_eq_none (by simp;omega),List.getElem?_eq_none (by rw[wB];omega)]
theorem RR:(List.replicate 128 (Value.bool false)).set 127 (.bool true)=rowOf (fun w=> w==127):=by kernel_rfl
theorem lK(f:Nat->Bool):(rowOf f).all single=true:=by
 rw[List.all_eq_true];intro x hx;obtain⟨i,_,rfl⟩:=List.mem_map.1 hx;rfl
theorem WI(f:Nat->Bool):Nat.beq (rowOf f).length 128=true:=by rw[wB];rfl
def toV(v:Nat)(o:Int×Int):Nat:=pB v o.1.toNat
def aH(os:List (Int×Int))(R:Nat->Bool)(v j w:Nat):Bool:=((List.range v).any fun u=> (os.any fun o=> toV u o==w)&&R u)||(((os.take j).any fun o=> toV v o==w)&&R v)
def VA.oA(s:VA):Nat->Nat->Bool
 | 0,w=> w==127
 | k+1,w=> aH (s.opts (s.ps[k]?.getD 0) k) (s.oA k) 128 0 w
def VA.reach(s:VA):Nat->Bool:=s.oA s.ps.length
theorem OY(os:List (Int×Int))(R:Nat->Bool)(w:Nat):aH os R 0 0 w=false:=by simp[aH]
theorem MY {os:List (Int×Int)}{R:Nat->Bool}{v j:Nat}{o:Int×Int}(h:os[j]? =some o)(w:Nat):aH os R v (j+1) w=(aH os R v j w||((toV v o==w)&&R v)):=by
 have iB:=(List.getElem?_eq_some_iff.1 h).1;have e:os.take (j+1)=os.take j++[o]:=by
  rw[List.take_succ_eq_append_getElem iB]
  congr 2
  exact Option.some.inj ((List.getElem?_eq_getElem iB).symm.trans h)
 unfold aH;rw[e,List.any_append];simp only[List.any_cons,List.any_nil,Bool.or_false,Bool.or_assoc,Bool.and_or_distrib_right]
theorem LY(os:List (Int×Int))(R:Nat->Bool)(v w:Nat):aH os R v os.length w=aH os R (v+1) 0 w:=by
 unfold aH;rw[List.take_length,List.range_succ,List.any_append];simp
theorem eZ {H:View}{mb:Nat}{x:Bool×Obj}(hM:H mb=some x):((H.xA mb).plus (View.put (fun _=> none) mb x)).le H/\Dj (H.xA mb) (View.put (fun _=> none) mb x):=by
 refine⟨fun b y hb=> ?_,fun b y hb=> ?_⟩
 ·unfold View.plus at hb;split at hb
  ·rename_i z hz
   cases hb
   by_cases e:b=mb
   ·subst e;simp[View.xA] at hz
   ·rw[KA e] at hz;exact hz
  ·by_cases e:b=mb
   ·subst e;rw[View.pA] at hb;cases hb
    exact hM
   ·rw[View.jA _ _ e] at hb;cases hb
 ·by_cases e:b=mb
  ·subst e;simp[View.xA]
  ·rw[View.jA _ _ e] at hb;cases hb
theorem SY {Hj Hm:View}{mb:Nat}{x:Bool×Obj}(hd:Dj Hj (Hm.put mb x)):(Hj.plus (Hm.put mb x)) mb=some x:=by rw[GA (hd mb x (View.pA ..)),View.pA]
theorem ER {Hj Hm:View}{mb:Nat}{x:Bool×Obj}(hd:Dj Hj (Hm.put mb x))(cN:Hm mb=none):Hm.le (Hj.plus (Hm.put mb x)):=fun b y hb=> by
 have aB:b≠mb:=by rintro rfl;rw[cN] at hb;cases hb
 have h1:(Hm.put mb x) b=some y:=by rw[View.jA _ _ aB];exact hb
 rw[GA (hd b y h1)];exact h1
structure MSt where
 k:Nat
 Hm:View
 es:Array MapEntry
 cl:Nat
 row:List Value
section
variable(M:Md prog)(H:View)
theorem K4(s:VA)(LB:s.Ok)(eb ec mb:Nat)(hE:eE H s eb)(hM:H mb=some (true,.map #[] 0)):
  dA M 90 #[s.val eb ec mb] H (fun v H'=> (∀b x,b≠mb->H b=some x->H' b=some x)/\v=.agg ⟨rowOf s.reach⟩):=by
 obtain⟨ef,ees,eet,eez,SS,QQ⟩:=hE;have aB:eb≠mb:=by rintro rfl;rw[SS] at hM;cases hM
 obtain⟨bB,nQ⟩:=eZ hM;have hEj:(H.xA mb) eb=some (ef,.cells ⟨ees⟩ eet eez):=by rw[KA aB];exact SS
 have h6:=LB.ps6;refine .en func90 ntmps90 fun St c cs hK=> ?_;refine Tc.lower bB ?_;refine U2 ?_;refine .bo fun b1=> ?_;refine .al fun b2=> ?_;refine U4 ?_;refine .al fun b3=> ?_;have g0:(List.replicate 128 (Value.bool false)).set 127 (.bool true)=rowOf (s.oA 0):=RR;refine .e (Or.storeT (E:=en) 0 rfl rfl rfl rfl rfl rfl rfl rfl rfl rfl g0 ?_);refine fF ?_;have XU:=LB.places;refine Tc.db (Tc.oR (σ:= { x:MSt//x.k<=s.ps.length/\Dj (H.xA mb) (x.Hm.put mb (true,.map x.es x.cl))/\x.Hm mb=none/\cI x.Hm s x.es.toList/\x.row=rowOf (s.oA x.k) })
  (fun x=> ((H.xA mb).plus (x.1.Hm.put mb (true,.map x.1.es x.1.cl)),[(17,.int .i64 (x.1.k:Nat)),(16,.int .i64 s.ps.length),(15,.slice (some ⟨eb,0,none⟩) s.ps.length ec),(1,.pointer (some ⟨b1,0,none⟩)),(2,.pointer (some ⟨b2,0,none⟩)),(3,.pointer (some ⟨b3,0,none⟩))],
   [(b3,true,.cells ⟨x.1.row⟩ 167 (0,0)),(b2,true,.cells ⟨List.replicate 128 (.bool false)⟩ 167 (0,0)),(b1,true,.cells ⟨(s.val eb ec mb).cells.toList⟩ 165 (0,0))])) (fun x=> s.ps.length-x.1.k) ?_ ⟨⟨0,fun _=> none,#[],0,rowOf (s.oA 0)⟩,Nat.zero_le _,nQ,rfl,(fun e he=> by cases he),rfl⟩)
 rintro⟨⟨k,Hm,es,cl,row⟩,g1,g2,g3,g4,g5⟩ lh;simp only at g1 g2 g3 g4 g5;subst g5;show Tc M St _ _ ((H.xA mb).plus (Hm.put mb (true,.map es cl))) _ [(17,.int .i64 (k:Nat)),(16,.int .i64 s.ps.length),(15,.slice (some ⟨eb,0,none⟩) s.ps.length ec),(1,.pointer (some ⟨b1,0,none⟩)),(2,.pointer (some ⟨b2,0,none⟩)),(3,.pointer (some ⟨b3,0,none⟩))]
   [(b3,true,.cells ⟨rowOf (s.oA k)⟩ 167 (0,0)),(b2,true,.cells ⟨List.replicate 128 (.bool false)⟩ 167 (0,0)),(b1,true,.cells ⟨(s.val eb ec mb).cells.toList⟩ 165 (0,0))] _ _
 have ld0:=HM (s.oA k);by_cases ck:k=s.ps.length
 ·have st0:zE (List.replicate 128 (Value.bool false)) 0 (rowOf (s.oA k))=rowOf (s.oA k):=IM _ (by simp);have ln0:=WI (s.oA k);have on0:=lK (s.oA k);refine U9 ?_;refine .x (mA.load (E:=en) 0 rfl rfl rfl rfl ld0) ?_;refine .e (Or.storeT (E:=en) 1 rfl rfl rfl rfl rfl ln0 rfl (by decide +kernel) on0 rfl st0 ?_);refine U ?_;refine Tc.L8 (E:=en) hK func90 results90 (vs:= [.agg ⟨rowOf (s.oA k)⟩]) ⟨⟨1,_,_,_,_,_,_,_,rfl,rfl,rfl,ld0⟩,trivial⟩ ?_;exact fun H' hs=> ⟨fun b x hb hx=> hs.base _ _ (tA (by rw[KA hb];exact hx)),by rw[ck];rfl⟩
 ·have ck2:k<s.ps.length:=by omega
  obtain⟨os,D6⟩:∃os,os=s.opts (s.ps[k]?.getD 0) k:=⟨_,rfl⟩
  have f1:YB true 2 ees (0+(k:Int).toNat*2)=some (FD (s.ps[k]?.getD 0) k):=by rw[show(k:Int).toNat=k by simp];exact QQ k ck2
  have hE3:((H.xA mb).plus (Hm.put mb (true,.map es cl))) eb=some (ef,.cells ⟨ees⟩ eet eez):=tA hEj;refine yK ?_;refine .al fun b5=> ?_;refine U4 ?_;refine .al fun b6=> ?_;refine U4 ?_;refine .x (mA.load (E:=en) 2 rfl rfl rfl rfl ld0) ?_;refine U3 ?_;refine Tc.db (Tc.oR (σ:= { x:MSt//x.k<=128/\Dj (H.xA mb) (x.Hm.put mb (true,.map x.es x.cl))/\x.Hm mb=none/\cI x.Hm s x.es.toList/\x.row=rowOf (aH os (s.oA k) x.k 0) })
   (fun x=> ((H.xA mb).plus (x.1.Hm.put mb (true,.map x.1.es x.1.cl)),[(22,.int .i64 (x.1.k:Nat)),(21,.agg ⟨rowOf (s.oA k)⟩),(17,.int .i64 (k:Nat)),(16,.int .i64 s.ps.length),(15,.slice (some ⟨eb,0,none⟩) s.ps.length ec),(1,.pointer (some ⟨b1,0,none⟩)),(2,.pointer (some ⟨b2,0,none⟩)),(3,.pointer (some ⟨b3,0,none⟩)),(5,.pointer (some ⟨b5,0,none⟩)),(6,.pointer (some ⟨b6,0,none⟩))],
    [(b6,true,.cells ⟨x.1.row⟩ 167 (0,0)),(b5,true,.cells ⟨[.int .i64 ((s.ps[k]?.getD 0:Nat):Int),.int .i64 (k:Nat)]⟩ 108 (0,0)),(b3,true,.cells ⟨rowOf (s.oA k)⟩ 167 (0,0)),(b2,true,.cells ⟨List.replicate 128 (.bool false)⟩ 167 (0,0)),(b1,true,.cells ⟨(s.val eb ec mb).cells.toList⟩ 165 (0,0))])) (fun x=> 128-x.1.k) ?_ ⟨⟨0,Hm,es,cl,List.replicate 128 (.bool false)⟩,Nat.zero_le _,g2,g3,g4,UT (fun i _=> OY ..)⟩)
  rintro⟨⟨v,Hm,es,cl,row⟩,v1,v2,v3,v4,v5⟩ mh;simp only at v1 v2 v3 v4 v5;subst v5;show Tc M St _ _ ((H.xA mb).plus (Hm.put mb (true,.map es cl))) _ [(22,.int .i64 (v:Nat)),(21,.agg ⟨rowOf (s.oA k)⟩),(17,.int .i64 (k:Nat)),(16,.int .i64 s.ps.length),(15,.slice (some ⟨eb,0,none⟩) s.ps.length ec),(1,.pointer (some ⟨b1,0,none⟩)),(2,.pointer (some ⟨b2,0,none⟩)),(3,.pointer (some ⟨b3,0,none⟩)),(5,.pointer (some ⟨b5,0,none⟩)),(6,.pointer (some ⟨b6,0,none⟩))]
    [(b6,true,.cells ⟨rowOf (aH os (s.oA k) v 0)⟩ 167 (0,0)),(b5,true,.cells ⟨[.int .i64 ((s.ps[k]?.getD 0:Nat):Int),.int .i64 (k:Nat)]⟩ 108 (0,0)),(b3,true,.cells ⟨rowOf (s.oA k)⟩ 167 (0,0)),(b2,true,.cells ⟨List.replicate 128 (.bool false)⟩ 167 (0,0)),(b1,true,.cells ⟨(s.val eb ec mb).cells.toList⟩ 165 (0,0))] _ _
  by_cases cv:v=128
  ·subst cv;have ld1:=HM (aH os (s.oA k) 128 0);have st1:zE (rowOf (s.oA k)) 0 (rowOf (aH os (s.oA k) 128 0))=rowOf (aH os (s.oA k) 128 0):=IM _ (wB _);have ln1:=WI (aH os (s.oA k) 128 0);have on1:=lK (aH os (s.oA k) 128 0);have ble:Nat.ble (0+128) (rowOf (s.oA k)).length=true:=by rw[wB];rfl
   have e1:rowOf (aH os (s.oA k) 128 0)=rowOf (s.oA (k+1)):=by subst D6;rfl
   refine U8 ?_;refine .x (mA.load (E:=en) 0 rfl rfl rfl rfl ld1) ?_;refine .e (Or.storeT (E:=en) 2 rfl rfl rfl rfl rfl ln1 rfl ble on1 rfl st1 ?_);refine U6 ?_;have lh':=lh ⟨⟨k+1,Hm,es,cl,rowOf (aH os (s.oA k) 128 0)⟩,by show k+1<=_;omega,v2,v3,v4,e1⟩ (by show _-(k+1)<_-k;omega);exact Tc.db lh'
  ·have cv2:v<128:=by omega
   have hEb:eE ((H.xA mb).plus (Hm.put mb (true,.map es cl))) s eb:=⟨ef,ees,eet,eez,tA hEj,QQ⟩
   have f2:YB false 1 (rowOf (s.oA k)) ((v:Int).toNat*1)=some (.bool (s.oA k v)):=by
    show(rowOf (s.oA k))[(v:Int).toNat*1]? =_;rw[show(v:Int).toNat*1=v by simp];exact uC _ cv2
   refine xK ?_;refine .x (mA.index (E:=en) rfl rfl rfl rfl rfl rfl oM oM f2) ?_;refine U7 ?_;refine To.OF rfl rfl rfl rfl rfl rfl dE (TC.h (kO M _ s LB eb ec mb es cl (s.ps[k]?.getD 0) k hEb (SY v2) Hm v4 (ER v2 v3) v3 ck2 rfl)) (fun w H1 hw=> ?_);obtain⟨Hm1,es1,cl1,nD,hd1,aBb,WX,vG,A6⟩:=gV v2 hw;refine To.lower nD ?_;have aV:=vG;obtain⟨⟨oa,oc,rS⟩, -, -⟩:=vG;subst rS;refine U4 ?_;have hol:=VA.BR LB (s.ps[k]?.getD 0) k;rw[<-D6] at hol aV;rw[<-D6];refine Tc.db (Tc.IA (σ:= { x:Nat×List Value//x.1<=os.length/\x.2=rowOf (aH os (s.oA k) v x.1) })
    (fun x=> ([(30,.int .i64 (x.1.1:Nat)),(29,.int .i64 (os.length:Nat)),(28,.slice oa os.length oc),(7,.int .i64 (v:Nat)),(8,.bool (s.oA k v)),(22,.int .i64 (v:Nat)),(21,.agg ⟨rowOf (s.oA k)⟩),(17,.int .i64 (k:Nat)),(16,.int .i64 s.ps.length),(15,.slice (some ⟨eb,0,none⟩) s.ps.length ec),(1,.pointer (some ⟨b1,0,none⟩)),(2,.pointer (some ⟨b2,0,none⟩)),(3,.pointer (some ⟨b3,0,none⟩)),(5,.pointer (some ⟨b5,0,none⟩)),(6,.pointer (some ⟨b6,0,none⟩))],
     [(b6,true,.cells ⟨x.1.2⟩ 167 (0,0)),(b5,true,.cells ⟨[.int .i64 ((s.ps[k]?.getD 0:Nat):Int),.int .i64 (k:Nat)]⟩ 108 (0,0)),(b3,true,.cells ⟨rowOf (s.oA k)⟩ 167 (0,0)),(b2,true,.cells ⟨List.replicate 128 (.bool false)⟩ 167 (0,0)),(b1,true,.cells ⟨(s.val eb ec mb).cells.toList⟩ 165 (0,0))])) (fun x=> os.length-x.1.1) ?_ ⟨(0,rowOf (aH os (s.oA k) v 0)),Nat.zero_le _,rfl⟩)
   rintro⟨⟨j,row⟩,j1,j2⟩ jh;simp only at j1 j2;subst j2;show Tc M St _ _ ((H.xA mb).plus (Hm1.put mb (true,.map es1 cl1))) _ [(30,.int .i64 (j:Nat)),(29,.int .i64 (os.length:Nat)),(28,.slice oa os.length oc),(7,.int .i64 (v:Nat)),(8,.bool (s.oA k v)),(22,.int .i64 (v:Nat)),(21,.agg ⟨rowOf (s.oA k)⟩),(17,.int .i64 (k:Nat)),(16,.int .i64 s.ps.length),(15,.slice (some ⟨eb,0,none⟩) s.ps.length ec),(1,.pointer (some ⟨b1,0,none⟩)),(2,.pointer (some ⟨b2,0,none⟩)),(3,.pointer (some ⟨b3,0,none⟩)),(5,.pointer (some ⟨b5,0,none⟩)),(6,.pointer (some ⟨b6,0,none⟩))]
     [(b6,true,.cells ⟨rowOf (aH os (s.oA k) v j)⟩ 167 (0,0)),(b5,true,.cells ⟨[.int .i64 ((s.ps[k]?.getD 0:Nat):Int),.int .i64 (k:Nat)]⟩ 108 (0,0)),(b3,true,.cells ⟨rowOf (s.oA k)⟩ 167 (0,0)),(b2,true,.cells ⟨List.replicate 128 (.bool false)⟩ 167 (0,0)),(b1,true,.cells ⟨(s.val eb ec mb).cells.toList⟩ 165 (0,0))] _ _
   by_cases cj:j=os.length
   ·have e2:rowOf (aH os (s.oA k) v j)=rowOf (aH os (s.oA k) (v+1) 0):=by rw[cj];exact QR fun w _=> LY ..
    refine xK ?_;have mh':=mh ⟨⟨v+1,Hm1,es1,cl1,rowOf (aH os (s.oA k) v j)⟩,by show v+1<=_;omega,hd1,WX,A6,e2⟩ (by show _-(v+1)<_-v;omega);exact Tc.db mh'
   ·have cj2:j<os.length:=by omega
    obtain⟨⟨o1,o2⟩,WU⟩:∃o,os[j]? =some o:=⟨_,List.getElem?_eq_getElem cj2⟩
    have XV:=WU;rw[D6] at XV;have eT:=VA.JP (List.mem_of_getElem? XV);simp only at eT;obtain⟨on,rfl⟩:=Int.eq_ofNat_of_zero_le eT.1;have R7:on<8:=by
     have h7:(on:Int)<=7:=eT.2;omega
    obtain⟨ob,off,oc',of,ocs,oe,ofz,ho1,Q7,ho3⟩:=H6 (D6▸aV) XV;rw[<-D6] at ho1;cases ho1
    have aBf:ob≠mb:=by rintro rfl;rw[WX] at Q7;cases Q7
    have hob:((H.xA mb).plus (Hm1.put mb (true,.map es1 cl1))) ob=some (of,.cells ⟨ocs⟩ oe ofz):=ER hd1 WX _ _ Q7;have f3:YB true 2 ocs (off+(j:Int).toNat*2)=some (.agg ⟨[.int .i64 (on:Nat),.int .i64 o2]⟩):=by rw[show(j:Int).toNat=j by simp];exact ho3
    have aBr:=aI v cv2 on R7;have WN:=MY (R:=s.oA k) (v:=v) WU;have f4:YB false 1 (rowOf (aH os (s.oA k) v j)) (0+((pB v on:Nat):Int).toNat*1)=some (.bool (aH os (s.oA k) v j (pB v on))):=by
     show(rowOf (aH os (s.oA k) v j))[0+((pB v on:Nat):Int).toNat*1]? =_;rw[show 0+((pB v on:Nat):Int).toNat*1=pB v on by simp];exact uC _ aBr
    have f5:zE (rowOf (aH os (s.oA k) v j)) (0+((pB v on:Nat):Int).toNat*1) [.bool (aH os (s.oA k) v j (pB v on)||s.oA k v)]=rowOf (aH os (s.oA k) v (j+1)):=by
     refine vW aBr (fun u _ hu=> ?_) ?_
     ·rw[WN];have:(toV v ((on:Int),o2)==u)=false:=by simpa [toV] using Ne.symm hu
      rw[this];simp
     ·rw[WN];simp[toV]
    have f6:Nat.ble (0+((pB v on:Nat):Int).toNat*1+1) (rowOf (aH os (s.oA k) v j)).length=true:=by
     rw[wB];exact Nat.ble_eq_true_of_le (by simp;omega)
    have f7:IntKind.u8.wrap (v:Int)=(v:Int):=by
     have:∀v:Nat,v<128->IntKind.u8.wrap (v:Int)=(v:Int):=by decide +kernel
     exact this v cv2
    refine yK ?_;refine .al fun b10=> ?_;refine U8 ?_;refine .cl (fun H hs=> cS M H v on cv2 R7) ?_;refine U2 ?_;cases hnv:aH os (s.oA k) v j (pB v on) with
    | true=>
     rw[hnv] at f4 f5;refine uQ ?_;have jh':=jh ⟨(j+1,rowOf (aH os (s.oA k) v (j+1))),by show j+1<=_;omega,rfl⟩ (by show _-(j+1)<_-j;omega);exact Tc.db jh'
    | false=>
     rw[hnv] at f4 f5;refine uQ ?_;have jh':=jh ⟨(j+1,rowOf (aH os (s.oA k) v (j+1))),by show j+1<=_;omega,rfl⟩ (by show _-(j+1)<_-j;omega);exact Tc.db jh'
end
end Go.Proofs.YtgkmnalhddmclaaGreatDoor
