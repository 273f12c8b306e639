import Derived.Test.YtmcbbifeekhmgaaGreatDoorPeSyn
import Derived.Laws.Entries
import GoSem.Core.View
import GoSem.Core.Region
set_option linter.unusedVariables false
namespace Go.Proofs.YtmcbbifeekhmgaaGreatDoor.Pe
open Go
def vOf (P:Program)(t:Nat):Value->Option V
 |.bool x=>some (.c (.b x))
 |.int k n=>some (.c (.i k n))
 |.string s=>some (.c (.s s))
 |.pointer none=>some (.c .nilp)
 |.slice none 0 0=>some (.c (.row true (P.elem t) []))
 |_=>none
def aOf (P:Program)(t:Nat):Operand->Option A
 |.tmp n=>some (.t n)
 |.const v=>(vOf P t v).map .c
 |.func f=>some (.c (.fn f []))
 |.global _=>none
def asOf (P:Program):List Operand->List TypeId->Option (List A)
 |[],_=>some []
 |x::xs,ts=>match aOf P (ts.headD 0) x,asOf P xs ts.tail with
  |some a,some as=>some (a::as)
  |_,_=>none
def zTy (P:Program):Nat->Nat->Option (List C)
 |0,_=>none
 |d+1,t=>match P.underlying t with
  |some .bool=>some [.b false]
  |some (.int k)=>some [.i k 0]
  |some .string=>some [.s ⟨#[]⟩]
  |some (.slice e)=>some [.row true e []]
  |some (.pointer _)=>some [.nilp]
  |some (.struct fs)=>fs.toList.foldr (λf acc=>match zTy P d f.type,acc with
   |some a,some as=>some (a++as)
   |_,_=>none) (some [])
  |_=>none
def zOk:List C->List Value->Bool
 |[],[]=>true
 |c::cs,v::vs=>(match c,v with
  |.b x,.bool y=>x==y
  |.i k n,.int k' n'=>k==k'&&n==n'
  |.s ⟨⟨[]⟩⟩,.string ⟨⟨[]⟩⟩=>true
  |.row true _ [],.slice none 0 0=>true
  |.nilp,.pointer none=>true
  |_,_=>false)&&zOk cs vs
 |_,_=>false
def zOf (P:Program)(t:Nat):Option (List C):=match P.info? t with
 |some i=>match i.zero with
  |some z=>match zTy P 9 t with
   |some cs=>match zOk cs z.cells.toList&&i.size==cs.length with
    |true=>some cs
    |false=>none
   |none=>none
  |none=>none
 |none=>none
def shapeOf (P:Program)(t:Nat):Option (Nat×Bool):=match P.info? t,P.underlying t with
 |some i,some (.struct _)=>some (i.size,true)
 |some _,some (.array _ _)=>none
 |some i,some _=>some (i.size,false)
 |_,_=>none
def fieldOf (P:Program)(t f:Nat):Option Field:=match P.underlying t with
 |some (.struct fs)=>fs[f]?
 |_=>none
def elemOf (P:Program)(t:Nat):Option Nat:=match P.underlying t with
 |some (.slice e)=>some e
 |_=>none
def sizeAt (P:Program)(t:Nat):Option Nat:=match P.info? t with
 |some i=>some i.size
 |none=>none
def optOf (P:Program):Option Operand->Option (Option A)
 |none=>some none
 |some x=>match aOf P 0 x with
  |some a=>some (some a)
  |none=>none
def partsOf (P:Program)(place:Nat->Option (Nat×Nat×Nat)):List (Nat×Operand)->Option (List (Nat×Nat×A))
 |[]=>some []
 |(i,x)::ps=>match place i,partsOf P place ps with
  |some (off,size,t),some as=>match aOf P t x with
   |some a=>some ((off,size,a)::as)
   |none=>none
  |_,_=>none
def placesOf (P:Program)(fs:List Field):Option (List (Nat×Nat)):=fs.mapM λf=>(P.info? f.type).map λi=>(f.offset,i.size)
def kindsOf (P:Program):List Field->Nat->Option (List Nat)
 |[],_=>some []
 |f::fs,i=>match f.name != "_" &&f.offset==i,kindsOf P fs (i+1)with
  |true,some ks=>match P.underlying f.type with
   |some (.int _)=>some (0::ks)
   |some .string=>some (1::ks)
   |some .bool=>some (2::ks)
   |_=>none
  |_,_=>none
def plainOf (P:Program)(t:Nat):Option (List Nat):=match P.underlying t with
 |some (.struct fs)=>match P.stoodInHeld t||P.eqGuardType P.depth t with
  |false=>kindsOf P fs.toList 0
  |true=>none
 |_=>none
def mapOk (P:Program)(t:Nat):Option (Nat×Nat):=match P.underlying t with
 |some (.map k e)=>match P.underlying k,P.underlying e with
  |some .string,some (.int .i64)=>match P.info? e with
   |some i=>match i.zero with
    |some (.int .i64 n)=>if n=0 then some (k,e)else none
    |_=>none
   |none=>none
  |_,_=>none
 |_=>none
def oOf0 (P:Program)(o:Oper):Option O:=
 match o.op with
 |.move x=>(aOf P o.type x).map .mv
 |.assign x=>(aOf P o.type x).map .mv
 |.pick c a b=>match aOf P 0 c,aOf P o.type a,aOf P o.type b with
  |some c,some a,some b=>some (.pk c a b)
  |_,_,_=>none
 |.alloc t=>(zOf P t).map .al
 |.box t x=>(aOf P t x).map .bx
 |.build t ps=>match zOf P t,P.underlying t with
  |some z,some (.struct fs)=>match placesOf P fs.toList with
   |some pl=>(partsOf P (λi=>match pl[i]?,fs[i]? with
    |some (off,n),some f=>some (off,n,f.type)
    |_,_=>none) ps.toList).map (.bd z)
   |none=>none
  |_,_=>none
 |.buildSlice t n ps=>match elemOf P t with
  |some e=>match zOf P e with
   |some z=>match decide (n*z.length<=4096)&&decide (z.length≠0)with
    |true=>(partsOf P (λi=>some (i*z.length,z.length,e)) ps.toList).map (.bs e n z)
    |false=>none
   |none=>none
  |none=>none
 |.nilCheck x=>(aOf P 0 x).map .nc
 |.load t x=>match shapeOf P t,aOf P 0 x with
  |some (n,ag),some a=>some (.ld n ag a)
  |_,_=>none
 |.store t x v=>match sizeAt P t,aOf P 0 x,aOf P t v with
  |some n,some a,some b=>some (.sto n a b)
  |_,_,_=>none
 |.binOp op t x y u=>match aOf P t x,aOf P u y with
  |some a,some b=>match P.underlying t with
   |some (.struct _)=>match op,plainOf P t with
    |.eql,some ks=>some (.eqs false ks a b)
    |.neq,some ks=>some (.eqs true ks a b)
    |_,_=>none
   |some .bool=>match op with
    |.eql=>some (.bb false a b)
    |.neq=>some (.bb true a b)
    |_=>none
   |_=>some (.bi op a b)
  |_,_=>none
 |.unOp op t x=>(aOf P t x).map (.un op)
 |.convert s d x=>match P.underlying s,P.underlying d,aOf P s x with
  |some (.int _),some (.int k),some a=>some (.cv k a)
  |some (.slice e),some .string,some a=>match P.underlying e with
   |some (.int .u8)=>some (.sb a)
   |_=>none
  |some .string,some (.slice e),some a=>match P.underlying e with
   |some (.int .u8)=>match sizeAt P e with
    |some 1=>some (.bs_ e a)
    |_=>none
   |_=>none
  |_,_,_=>none
 |.makeFunc fn first xs=>match fn,first.toList with
  |.func f,[]=>(asOf P xs.toList []).map (.mf f)
  |_,_=>none
 |.makeSlice t l c=>match elemOf P t,aOf P 0 l,aOf P 0 c with
  |some e,some l,some c=>(zOf P e).map (.ms e · l c)
  |_,_,_=>none
 |.slice t x lo hi mx=>match mx with
  |none=>match P.underlying t,aOf P t x,optOf P lo,optOf P hi with
   |some .string,some a,some l,some h=>some (.ss a l h)
   |some (.slice e),some a,some l,some h=>(sizeAt P e).map λ_=>.sl e a l h
   |_,_,_,_=>none
  |some m=>match lo,hi,P.underlying t,aOf P t x with
   |none,some q,some (.slice e),some a=>match aOf P 0 q,aOf P 0 m with
    |some q',some m'=>(sizeAt P e).map λ_=>.s3 e a q' m'
    |_,_=>none
   |_,_,_,_=>none
 |.field t x f=>match fieldOf P t f,aOf P t x with
  |some fd,some a=>(shapeOf P fd.type).map λ(n,ag)=>.fd fd.offset n ag a
  |_,_=>none
 |.fieldAddr s x f=>match fieldOf P s f,aOf P 0 x with
  |some fd,some a=>match shapeOf P fd.type with
   |some (n,_)=>match n with
    |0=>none
    |_=>some (.fa fd.offset a)
   |none=>none
  |_,_=>none
 |.indexAddr t x i=>match elemOf P t,aOf P t x,aOf P 0 i with
  |some e,some a,some b=>(sizeAt P e).map λ_=>.ia e a b
  |_,_,_=>none
 |.index t x i=>match P.underlying t,aOf P t x,aOf P 0 i with
  |some .string,some a,some b=>some (.ix a b)
  |_,_,_=>none
 |.extract x k=>(aOf P 0 x).map (.ex · k)
 |.makeMap t r=>match r with
  |none=>match mapOk P t with
   |some _=>some .mk
   |none=>none
  |some _=>none
 |.mapUpdate t m x y=>match mapOk P t with
  |some (k,e)=>match aOf P 0 m,aOf P k x,aOf P e y with
   |some a,some b,some c=>some (.mu a b c)
   |_,_,_=>none
  |none=>none
 |.insert t m x y=>match mapOk P t with
  |some (k,e)=>match aOf P 0 m,aOf P k x,aOf P e y with
   |some a,some b,some c=>some (.mu a b c)
   |_,_,_=>none
  |none=>none
 |.lookup t m x ok=>match ok with
  |false=>match mapOk P t with
   |some (k,e)=>match aOf P 0 m,aOf P k x with
    |some a,some b=>some (.lk a b)
    |_,_=>none
   |none=>none
  |true=>none
 |.call c=>match c.callee with
  |.builtin .len=>match c.args.toList,c.argTypes.toList with
   |[x],[t]=>match P.underlying t with
    |some (.slice _)=>(aOf P t x).map (.ln false)
    |some .string=>(aOf P t x).map (.ln true)
    |_=>none
   |_,_=>none
  |.builtin .append=>match c.args.toList,c.argTypes.toList with
   |[x,y],[t,u]=>match t==u,elemOf P t,aOf P t x,aOf P t y with
    |true,some e,some a,some b=>match zOf P e with
     |some (_::_)=>some (.ap e a b)
     |_=>none
    |_,_,_,_=>match elemOf P t,aOf P t x,aOf P u y,P.underlying u with
     |some e,some a,some b,some .string=>match P.info? e with
      |some i=>match i.zero with
       |some (.int .u8 n)=>if n=0/\i.size=1/\i.bytes=1 then some (.aps e a b)else none
       |_=>none
      |none=>none
     |some e,some a,some b,some (.int _)=>match zOf P e with
      |some (z::zs)=>some (.apz e (z::zs) a b)
      |_=>none
     |_,_,_,_=>none
   |_,_=>none
  |.builtin .cap=>match c.args.toList,c.argTypes.toList with
   |[x],[t]=>match P.underlying t with
    |some (.slice _)=>(aOf P t x).map .cp
    |_=>none
   |_,_=>none
  |.builtin .max=>match c.args.toList with
   |[x,y]=>match aOf P 0 x,aOf P 0 y with
    |some a,some b=>some (.mx a b)
    |_,_=>none
   |_=>none
  |.builtin .min=>match c.args.toList with
   |[x,y]=>match aOf P 0 x,aOf P 0 y with
    |some a,some b=>some (.mn a b)
    |_,_=>none
   |_=>none
  |.builtin .clear=>match c.args.toList,c.argTypes.toList with
   |[x],[t]=>match elemOf P t,aOf P t x with
    |some e,some a=>match zOf P e with
     |some (z::zs)=>some (.clr e (z::zs) a)
     |_=>none
    |_,_=>none
   |_,_=>none
  |.value (.func f)=>(asOf P c.args.toList c.argTypes.toList).map (.cl f)
  |.value (.tmp t)=>(asOf P c.args.toList c.argTypes.toList).map (.cx (.t t))
  |_=>none
 |_=>none
def oOf (P:Program)(o:Oper):Option O:=match oOf0 P o with
 |some x=>some x
 |none=>some .bad
theorem oOf_some {P:Program}{o:Oper}{x:O}(h:oOf P o=some x):oOf0 P o=some x\/x=.bad:=by
 grind [oOf,Option.some.inj]
def gOf (all:Array Oper):Option (Nat×Bool)->Option (Option (Nat×Bool))
 |none=>some none
 |some (i,want)=>match(all[i]?).bind (·.dst)with
  |some d=>some (some (d,want))
  |none=>none
def opsOf (P:Program)(N:Nat)(draw:Bool)(all:Array Oper):List Oper->Option (List Op1)
 |[]=>some []
 |o::os=>match oOf P o,gOf all o.guard,opsOf P N draw all os with
  |some x,some g,some xs=>match(match o.dst with|some d=>Nat.blt d N|none=>true)with
   |true=>some (⟨o.dst,g,if draw then(o.after.toList.filter (Region.binds .any)).map (·.on)else[],x⟩::xs)
   |false=>none
  |_,_,_=>none
def kOf (P:Program)(N:Nat):Code->Option K
 |.skip=>some .skip
 |.region id ops draw=>(opsOf P N draw ops ops.toList).map (.ops id draw)
 |.seq a b=>match kOf P N a,kOf P N b with
  |some x,some y=>some (.seq x y)
  |_,_=>none
 |.cond c a b=>match aOf P 0 c,kOf P N a,kOf P N b with
  |some c,some x,some y=>some (.cond c x y)
  |_,_,_=>none
 |.block n a=>(kOf P N a).map (.block n)
 |.loop a=>(kOf P N a).map .loop
 |.exit n=>some (.exit n)
 |.ret=>some .ret
 |_=>none
def resOf (P:Program):List ResultVar->Option (List (Nat×Option (Nat×Bool)))
 |[]=>some []
 |.tmp t::rs=>(resOf P rs).map ((t,none):: ·)
 |.cell a t::rs=>match shapeOf P t,resOf P rs with
  |some s,some xs=>some ((a,some s)::xs)
  |_,_=>none
def fOf (P:Program)(f:Nat):Option F:=match P.funcs[f]? with
 |some fn=>match fn.body with
  |some b=>match kOf P fn.ntmps b,resOf P fn.results.toList with
   |some k,some rs=>match Nat.ble (fn.params.size+fn.nfree) fn.ntmps with
    |true=>some ⟨fn.params.size+fn.nfree,fn.ntmps,rs,k⟩
    |false=>none
   |_,_=>none
  |none=>none
 |none=>none
end Go.Proofs.YtmcbbifeekhmgaaGreatDoor.Pe
